/- A journal's steps, at a disk that has power: one write; two writes and a flush; a flush (chapter 25). A space's blocks, given out (chapter 13); how many there are (chapter 9). A journal within a volume (chapter 25): ready, Used, Room, Read, Append. -/
import Derived.Test.YtngiibgdgenidaaGreatQ9
import Derived.Test.YtngiibgdgenidaaGreatQ15
import Derived.Deep.RegionHeld3
import Derived.Test.YtngiibgdgenidaaGreatQ4
import Derived.Test.YtngiibgdgenidaaGreatQ14
import Derived.Test.YtngiibgdgenidaaGreatQ13
import Derived.Test.YtngiibgdgenidaaGreatQ8
import Derived.Test.YtngiibgdgenidaaGreatQ7
import Derived.OrdersHeld
import Derived.Lib.SliceRun
import Derived.Deep.DeepAppendWide
import Derived.Test.YtngiibgdgenidaaGreatQ11
import Derived.Test.YtngiibgdgenidaaGreatQ2
import Derived.Laws.IdiomCopy
import Derived.IntWalk
import Derived.Test.YtngiibgdgenidaaGreatQ5
import Derived.Shelf.Strings.BuilderK
import Derived.StillTailTactics
import Derived.Carry
import Derived.Test.YtngiibgdgenidaaGreatQ10
set_option linter.unusedSimpArgs false
set_option linter.unusedVariables false
set_option maxRecDepth 100000
set_option maxHeartbeats 4000000
namespace Go.Proofs.YtngiibgdgenidaaGreat
open Go Go.RowKit
theorem qU (jb db g c N m:Nat) (p3a p4a p5a:Nat) (ia:Int) (sa:ByteArray) (p3b p4b p5b:Nat) (ib:Int) (sb:ByteArray) (t:TypeId) (d:am) (w:World) (h:az w db d) (hrow:ac w g [.func (.func 250) #[] #[.pointer (some ⟨p3a,0,none⟩), .pointer (some ⟨p4a,0,none⟩), .pointer (some ⟨p5a,0,none⟩)], .func (.func 250) #[] #[.pointer (some ⟨p3b,0,none⟩), .pointer (some ⟨p4b,0,none⟩), .pointer (some ⟨p5b,0,none⟩)], .func (.func 152) #[.pointer (some ⟨db,0,none⟩)] #[]] t) (hj:w.cell? ⟨jb,1,none⟩=some (.pointer (some ⟨db,0,none⟩))) (hjl:jb<w.heap.size) (hsta:fJ w jb p3a p4a p5a ia sa) (hstb:fJ w jb p3b p4b p5b ib sb)
  (hn:∀x,x=g∨x=jb∨x=p3a∨x=p4a∨x=p5a∨x=p3b∨x=p4b∨x=p5b→x∉d.foot db)
  (hcm:Calm d N m) (hm:m+2≤4096) (hN:N≤1024) (hia:0≤ia∧ia<(N:Int)) (hsa:sa.size=4096) (hib:0≤ib∧ib<(N:Int)) (hsb:sb.size=4096):
  Calls Tryz.prog 148 #[.pointer (some ⟨jb,0,none⟩), .slice (some ⟨g,0,none⟩) 3 c] w fun e w'=>e= .returned (.int .i64 0)∧∃d',d'=({d with cs:=d.cs++[(ia,sa)]++[(ib,sb)]}:am).flushed∧bg w w' db d d':=by
 have HH:=Lib.hid h
 have HR:=Lib.hid hrow
 have HJ:=Lib.hid hj
 have HSTa:=Lib.hid hsta
 have HIa:=Lib.hid hia
 have HSa:=Lib.hid hsa
 have HSTb:=Lib.hid hstb
 have HIb:=Lib.hid hib
 have HSb:=Lib.hid hsb
 have HN:=Lib.hid hn
 have HCM:=Lib.hid hcm
 have HMM:=Lib.hid (And.intro hm hN)
 have HJL:=Lib.hid hjl
 clear h hrow hj hn hcm hm hN hjl hsta hia hsa hstb hib hsb
 go_enter Tryz.func148,Tryz.ntmps148
 go_wp2_with fail
 go_loopw [10] (fun v wr=>∃(k:Nat) (d':am),k≤3∧v= .int .i64 k∧((k=0→d'=d)∧(k=1→(∃cv,d'={d with cv:=cv,cs:=d.cs++[(ia,sa)]}))∧(k=2→(∃cv,d'={d with cv:=cv,cs:=d.cs++[(ia,sa)]++[(ib,sb)]}))∧(k=3→d'=({d with cs:=d.cs++[(ia,sa)]++[(ib,sb)]}:am).flushed))∧Calm d' N (m+2)∧(k=0→Calm d' N m)∧(k=1→Calm d' N (m+1))∧(k=2→Calm d' N (m+2))∧bg w wr db d d') (fun v _=>3-(intOf v).toNat)
 case atStart=>exact⟨0,d,by omega,rfl,⟨fun _=>rfl,fun h=>(by cases h),fun h=>(by cases h),fun h=>(by cases h)⟩,HCM.out.mono (by omega),fun _=>HCM.out,fun h=>(by cases h),fun h=>(by cases h),bg.refl HH.out⟩
 case round=>
  obtain⟨k,d',hk,rfl,hstage,hca,hc0,hc1,hc2,hto⟩:=hrel
  have HT:=Lib.hid hto
  have HSG:=Lib.hid hstage
  have HCA:=Lib.hid hca
  have HC0:=Lib.hid hc0
  have HC1:=Lib.hid hc1
  have HC2:=Lib.hid hc2
  clear hto hstage hca hc0 hc1 hc2
  have HRr:=Lib.hid (HT.out.turned.blk HR.out (HN.out g (by simp)))
  have HJr:=Lib.hid (show wr.cell? ⟨jb,1,none⟩=some (.pointer (some ⟨db,0,none⟩)) by rw[HT.out.turned.cell HJL.out (HN.out jb (by simp))];exact HJ.out)
  have HSTra:=Lib.hid (HSTa.out.turned HT.out.turned (HN.out p3a (by simp)) (HN.out p4a (by simp)) (HN.out p5a (by simp)))
  have HSTrb:=Lib.hid (HSTb.out.turned HT.out.turned (HN.out p3b (by simp)) (HN.out p4b (by simp)) (HN.out p5b (by simp)))
  match k,hk with
  |0,hk=>
   have ck:=HRr.out.cell (i:=0) rfl
   go_wp2_with fail
   obtain rfl:d'=d:=HSG.out.1 (by trivial)
   refine(gu jb db p3a p4a p5a _ ia sa _ HT.out.at' HJr.out HSTra.out HCA.out.up HCA.out.left (by have:=(HC0.out (by trivial)).few;have:=HMM.out.1;omega) HIa.out.1 (by rw[HCA.out.len];exact HIa.out.2) HSa.out).mono ?_
   rintro e w2 ⟨rfl,cv',ht⟩
   have HT2:=Lib.hid ht
   clear ht
   go_wp2_with fail
   go_roundw
   case rel=>exact⟨1,_,by omega,rfl,⟨fun h=>(by cases h),fun _=>⟨cv',rfl⟩,fun h=>(by cases h),fun h=>(by cases h)⟩,((HC0.out (by trivial)).put HIa.out.1 HIa.out.2 cv' sa).mono (by omega),fun h=>(by cases h),fun _=>((HC0.out (by trivial)).put HIa.out.1 HIa.out.2 cv' sa),fun h=>(by cases h),HT.out.trans HT2.out⟩
   case measure=>simp[intOf]
  |1,hk=>
   have ck:=HRr.out.cell (i:=1) rfl
   go_wp2_with fail
   obtain⟨cv0,rfl⟩:=HSG.out.2.1 (by trivial)
   refine(gu jb db p3b p4b p5b _ ib sb _ HT.out.at' HJr.out HSTrb.out HCA.out.up HCA.out.left (by have:=(HC1.out (by trivial)).few;have:=HMM.out.1;omega) HIb.out.1 (by rw[HCA.out.len];exact HIb.out.2) HSb.out).mono ?_
   rintro e w2 ⟨rfl,cv',ht⟩
   have HT2:=Lib.hid ht
   clear ht
   go_wp2_with fail
   go_roundw
   case rel=>exact⟨2,_,by omega,rfl,⟨fun h=>(by cases h),fun h=>(by cases h),fun _=>⟨cv',rfl⟩,fun h=>(by cases h)⟩,((HC1.out (by trivial)).put HIb.out.1 HIb.out.2 cv' sb).mono (by omega),fun h=>(by cases h),fun h=>(by cases h),fun _=>((HC1.out (by trivial)).put HIb.out.1 HIb.out.2 cv' sb),HT.out.trans HT2.out⟩
   case measure=>simp[intOf]
  |2,hk=>
   have ck:=HRr.out.cell (i:=2) rfl
   go_wp2_with fail
   obtain⟨cv0,rfl⟩:=HSG.out.2.2.1 (by trivial)
   refine(gW db _ _ HT.out.at' HCA.out.up HCA.out.left (by have:=HCA.out.few;have:=HMM.out.1;omega) (by have:=HCA.out.len;have:=HMM.out.2;omega) HCA.out.hin).mono ?_
   rintro e w2 ⟨rfl,ht⟩
   have HT2:=Lib.hid ht
   clear ht
   go_wp2_with fail
   go_roundw
   case rel=>exact⟨3,_,by omega,rfl,⟨fun h=>(by cases h),fun h=>(by cases h),fun h=>(by cases h),fun _=>rfl⟩,HCA.out.flushed.mono (Nat.zero_le _),fun h=>(by cases h),fun h=>(by cases h),fun h=>(by cases h),HT.out.trans HT2.out⟩
   case measure=>simp[intOf]
  |3,hk=>
   go_wp2_with fail
   go_ret
   first
    |exact⟨rfl,d',HSG.out.2.2.2 (by trivial),HT.out⟩
    |(have he:=HSG.out.2.2.2 (by trivial);subst he;first|exact⟨rfl,HT.out⟩|exact⟨rfl,by have ht:=HT.out;simp only[List.append_assoc,List.cons_append,List.nil_append]at ht;exact ht⟩)
theorem sM (jb db g c N m:Nat) (p3a p4a p5a:Nat) (ia:Int) (sa:ByteArray) (t:TypeId) (d:am) (w:World) (h:az w db d) (hrow:ac w g [.func (.func 250) #[] #[.pointer (some ⟨p3a,0,none⟩), .pointer (some ⟨p4a,0,none⟩), .pointer (some ⟨p5a,0,none⟩)], .func (.func 152) #[.pointer (some ⟨db,0,none⟩)] #[]] t) (hj:w.cell? ⟨jb,1,none⟩=some (.pointer (some ⟨db,0,none⟩))) (hjl:jb<w.heap.size) (hsta:fJ w jb p3a p4a p5a ia sa)
  (hn:∀x,x=g∨x=jb∨x=p3a∨x=p4a∨x=p5a→x∉d.foot db)
  (hcm:Calm d N m) (hm:m+1≤4096) (hN:N≤1024) (hia:0≤ia∧ia<(N:Int)) (hsa:sa.size=4096):
  Calls Tryz.prog 148 #[.pointer (some ⟨jb,0,none⟩), .slice (some ⟨g,0,none⟩) 2 c] w fun e w'=>e= .returned (.int .i64 0)∧∃d',d'=({d with cs:=d.cs++[(ia,sa)]}:am).flushed∧bg w w' db d d':=by
 have HH:=Lib.hid h
 have HR:=Lib.hid hrow
 have HJ:=Lib.hid hj
 have HSTa:=Lib.hid hsta
 have HIa:=Lib.hid hia
 have HSa:=Lib.hid hsa
 have HN:=Lib.hid hn
 have HCM:=Lib.hid hcm
 have HMM:=Lib.hid (And.intro hm hN)
 have HJL:=Lib.hid hjl
 clear h hrow hj hn hcm hm hN hjl hsta hia hsa
 go_enter Tryz.func148,Tryz.ntmps148
 go_wp2_with fail
 go_loopw [10] (fun v wr=>∃(k:Nat) (d':am),k≤2∧v= .int .i64 k∧((k=0→d'=d)∧(k=1→(∃cv,d'={d with cv:=cv,cs:=d.cs++[(ia,sa)]}))∧(k=2→d'=({d with cs:=d.cs++[(ia,sa)]}:am).flushed))∧Calm d' N (m+1)∧(k=0→Calm d' N m)∧(k=1→Calm d' N (m+1))∧bg w wr db d d') (fun v _=>2-(intOf v).toNat)
 case atStart=>exact⟨0,d,by omega,rfl,⟨fun _=>rfl,fun h=>(by cases h),fun h=>(by cases h)⟩,HCM.out.mono (by omega),fun _=>HCM.out,fun h=>(by cases h),bg.refl HH.out⟩
 case round=>
  obtain⟨k,d',hk,rfl,hstage,hca,hc0,hc1,hto⟩:=hrel
  have HT:=Lib.hid hto
  have HSG:=Lib.hid hstage
  have HCA:=Lib.hid hca
  have HC0:=Lib.hid hc0
  have HC1:=Lib.hid hc1
  clear hto hstage hca hc0 hc1
  have HRr:=Lib.hid (HT.out.turned.blk HR.out (HN.out g (by simp)))
  have HJr:=Lib.hid (show wr.cell? ⟨jb,1,none⟩=some (.pointer (some ⟨db,0,none⟩)) by rw[HT.out.turned.cell HJL.out (HN.out jb (by simp))];exact HJ.out)
  have HSTra:=Lib.hid (HSTa.out.turned HT.out.turned (HN.out p3a (by simp)) (HN.out p4a (by simp)) (HN.out p5a (by simp)))
  match k,hk with
  |0,hk=>
   have ck:=HRr.out.cell (i:=0) rfl
   go_wp2_with fail
   obtain rfl:d'=d:=HSG.out.1 (by trivial)
   refine(gu jb db p3a p4a p5a _ ia sa _ HT.out.at' HJr.out HSTra.out HCA.out.up HCA.out.left (by have:=(HC0.out (by trivial)).few;have:=HMM.out.1;omega) HIa.out.1 (by rw[HCA.out.len];exact HIa.out.2) HSa.out).mono ?_
   rintro e w2 ⟨rfl,cv',ht⟩
   have HT2:=Lib.hid ht
   clear ht
   go_wp2_with fail
   go_roundw
   case rel=>exact⟨1,_,by omega,rfl,⟨fun h=>(by cases h),fun _=>⟨cv',rfl⟩,fun h=>(by cases h)⟩,((HC0.out (by trivial)).put HIa.out.1 HIa.out.2 cv' sa).mono (by omega),fun h=>(by cases h),fun _=>((HC0.out (by trivial)).put HIa.out.1 HIa.out.2 cv' sa),HT.out.trans HT2.out⟩
   case measure=>simp[intOf]
  |1,hk=>
   have ck:=HRr.out.cell (i:=1) rfl
   go_wp2_with fail
   obtain⟨cv0,rfl⟩:=HSG.out.2.1 (by trivial)
   refine(gW db _ _ HT.out.at' HCA.out.up HCA.out.left (by have:=HCA.out.few;have:=HMM.out.1;omega) (by have:=HCA.out.len;have:=HMM.out.2;omega) HCA.out.hin).mono ?_
   rintro e w2 ⟨rfl,ht⟩
   have HT2:=Lib.hid ht
   clear ht
   go_wp2_with fail
   go_roundw
   case rel=>exact⟨2,_,by omega,rfl,⟨fun h=>(by cases h),fun h=>(by cases h),fun _=>rfl⟩,HCA.out.flushed.mono (Nat.zero_le _),fun h=>(by cases h),fun h=>(by cases h),HT.out.trans HT2.out⟩
   case measure=>simp[intOf]
  |2,hk=>
   go_wp2_with fail
   go_ret
   first
    |exact⟨rfl,d',HSG.out.2.2 (by trivial),HT.out⟩
    |(have he:=HSG.out.2.2 (by trivial);subst he;first|exact⟨rfl,HT.out⟩|exact⟨rfl,by have ht:=HT.out;simp only[List.append_assoc,List.cons_append,List.nil_append]at ht;exact ht⟩)
theorem ng {w:World} {sb:Nat} {g:aK} {used:Int} {t:TypeId} (h:ac w sb (ct g used) t):w.rangeAt sb 0 g.cells:=by
 intro j v hv
 rw[Nat.zero_add]
 match j,hv with
 |0,hv=>simp[aK.cells]at hv;subst hv;exact h.cell (i:=0) rfl
 |1,hv=>simp[aK.cells]at hv;subst hv;exact h.cell (i:=1) rfl
 |2,hv=>simp[aK.cells]at hv;subst hv;exact h.cell (i:=2) rfl
 |j+3,hv=>simp[aK.cells]at hv
theorem lP (sb:Nat) (g:aK) (used:Int) (w:World) (h:ac w sb (ct g used) 269) (hg:dx g):
  Calls Tryz.prog 98 #[.pointer (some ⟨sb,0,none⟩)] w fun e w'=>e= .returned (.bool (decide (used<g.blocks-4)))∧Below w.heap.size w w':=by
 go_enter Tryz.func98,Tryz.ntmps98
 go_wp2_with fail
 refine wp_region_held_drew (S:=fun wx=>wx.rangeAt sb 0 g.cells∧wx.cell? ⟨sb,3,none⟩=some (.int .i64 used)) (by kernel_rfl) (⟨ng h.drew,h.drew.cell (i:=3) rfl⟩) (fun hHeld=> ?_)
 refine hp 0 ?_
 refine wpAnyH_ready (rs:=[1]) (by kernel_rfl) (by simp) ?_
 refine AllReadyH.cons rfl (fun K hK=> ?_) AllReadyH.nil
 go_simp
 refine(jd sb g used _ h.drew hg).mono ?_
 rintro e w' ⟨rfl,rfl⟩
 (try go_wp2_with fail)
 refine hK.out _ _ (⟨ng h.drew,h.drew.cell (i:=3) rfl⟩) (fun hHeld2=> ?_)
 clear hK K hHeld
 have hHeld:=hHeld2
 clear hHeld2
 (try go_frame)
 refine hp 2 ?_
 refine hp 3 ?_
 refine hp 4 ?_
 refine hp 5 ?_
 refine hp 6 ?_
 refine hp 7 ?_
 refine hp 8 ?_
 refine hp 9 ?_
 refine wpAnyH_take (i:=10) (v:= .agg (g.cells).toArray) rfl (by kernel_rfl) (by kernel_rfl) (by kernel_rfl) (fun _ _ _ h=>h) (yieldsIf_load_mid (by rfl) 31 (.tmp 12) rfl sb 0 rfl (g.cells) _ (fun w h=>h.1) Tryz.underlying31 rfl bP) (by assumption) ?_
 (try go_frame)
 refine wpAnyH_ready (rs:=[11]) (by kernel_rfl) (by simp) ?_
 refine AllReadyH.cons rfl (fun K hK=> ?_) AllReadyH.nil
 go_simp
 refine(il g _ hg).mono ?_
 rintro e wa ⟨rfl,hba⟩
 have HBa:=Lib.hid hba
 have HSa:=Lib.hid (h.drew.below hba h.drew.lt)
 clear hba
 (try go_wp2_with fail)
 refine hK.out _ _ (⟨ng HSa.out,HSa.out.cell (i:=3) rfl⟩) (fun hHeld2=> ?_)
 clear hK K hHeld
 have hHeld:=hHeld2
 clear hHeld2
 (try go_frame)
 refine hp 12 ?_
 refine hp 13 ?_
 refine hp 14 ?_
 refine wpAnyH_done (by kernel_rfl) ?_ _
 clear hHeld
 go_wp2_with fail
 go_ret
 first
  |exact⟨rfl,(Below.refl _ _).drew.trans HBa.out⟩
  |exact⟨cL (by simp),(Below.refl _ _).drew.trans HBa.out⟩
theorem pT (sb:Nat) (g:aK) (used:Int) (w:World) (h:ac w sb (ct g used) 269) (hg:dx g) (h0:0≤used) (h1:used<g.blocks-4):
  Calls Tryz.prog 273 #[.pointer (some ⟨sb,0,none⟩), .func (.func 98) #[.pointer (some ⟨sb,0,none⟩)] #[], .int .i64 6] w fun e w'=>(e= .returned (.tuple #[.int .i64 used, .int .i64 0])∧ac w' sb (ct g (used+1)) 269)∧ab [sb] w w':=by
 have hb1:=hg.b1
 have hu:used≤1024:=by omega
 have hu1:used+1-1=used:=by omega
 go_enter Tryz.func273,Tryz.ntmps273
 go_wp2_with fail
 refine(jd sb g used _ h hg).mono ?_
 rintro e w' ⟨rfl,rfl⟩
 go_wp2_with fail
 refine((lP sb g used _ h hg).mono (fun e w' hh=>show e= .returned (.bool true)∧Below _ _ w' from⟨by rw[hh.1,decide_eq_true h1],hh.2⟩)).mono ?_
 rintro e w1 ⟨rfl,hb⟩
 have h2:=h.below hb h.lt
 have c3:=h2.cell (i:=3) rfl
 have f3:=h2.free 3
 have HB:=Lib.hid hb
 have H2:=Lib.hid h2
 clear hb h2
 go_wp2_with fail
 go_ret2
 refine⟨⟨?_,(H2.out.set 3 _).ext rfl⟩,(ab.of_below HB.out (Nat.le_refl _)).trans ((ab.refl _ _).setCell (.inl (by simp)) 3 _)⟩
 first|rfl|(rw[hu1])
theorem pU (sb:Nat) (g:aK) (used:Int) (w:World) (h:ac w sb (ct g used) 269) (hg:dx g) (h0:0≤used) (h1:used<g.blocks-4):
  Calls Tryz.prog 208 #[.pointer (some ⟨sb,0,none⟩)] w fun e w'=>(e= .returned (.tuple #[.int .i64 used, .int .i64 0])∧ac w' sb (ct g (used+1)) 269)∧ab [sb] w w':=by
 have hmf:∀(fn:Fn) (first cap:Array Value) (w:World),(Instr.makeFunc fn first cap).run Tryz.prog w= .ok (.func fn first cap) w:=fun _ _ _ _=>rfl
 go_enter Tryz.func208,Tryz.ntmps208
 go_wp2_with fail
 refine(pT sb g used _ h hg h0 h1).mono ?_
 rintro e w1 ⟨⟨rfl,hb⟩,ht⟩
 go_wp2_with fail
 go_ret2
 exact⟨⟨rfl,hb⟩,ht⟩
structure jt (v:bf):Prop where
 sup:gi v.last
 u0:0≤v.used
 u1:v.used≤v.last.geo.blocks-4
 calm:Calm v.d v.last.geo.blocks.toNat v.used.toNat
theorem jt.few {v:bf} (h:jt v):v.used.toNat≤1020:=by have:=h.u1;have:=h.sup.geo.b1;omega
theorem jt.blocks {v:bf} (h:jt v):v.last.geo.blocks.toNat≤1024:=by have:=h.sup.geo.b1;omega
theorem wU (i:aR) (v:bf) (w:World) (h:aP w i v):
  Calls Tryz.prog 183 #[.pointer (some ⟨i.jb,0,none⟩)] w fun e w'=>e= .returned (.int .i64 0)∧w=w':=by
 have c1:=h.jour.cell (i:=1) rfl
 have c9:w.cell? ⟨i.jb,9,none⟩=some (.bool false):=h.jour.cell (i:=9) rfl
 go_enter Tryz.func183,Tryz.ntmps183
 go_wp2_with fail
 go_ret
 exact⟨rfl,rfl⟩
theorem rU (vb jb bb:Nat) (key data:ByteArray) (xv sv cv rv:Value) (w:World) (h:ac w vb [.pointer (some ⟨jb,0,none⟩), .string key, .string data,xv,sv, .pointer (some ⟨bb,0,none⟩),cv,rv] 156):
  Calls Tryz.prog 49 #[.pointer (some ⟨vb,0,none⟩)] w fun e w'=>e= .returned (.bool true)∧w=w':=by
 have c0:=h.cell (i:=0) rfl
 have c5:=h.cell (i:=5) rfl
 go_enter Tryz.func49,Tryz.ntmps49
 go_wp2_with fail
 go_ret
 exact⟨rfl,rfl⟩
theorem gR (vb jb bb c2 m1 m2 m3:Nat) (first epoch:Int) (key data:ByteArray) (xv sv cv rv:Value) (w:World) (h:ac w vb [.pointer (some ⟨jb,0,none⟩), .string key, .string data,xv,sv, .pointer (some ⟨bb,0,none⟩),cv,rv] 156) (hb:ac w bb (bB c2 first epoch m1 m2 m3) 234):
  Calls Tryz.prog 37 #[.pointer (some ⟨vb,0,none⟩)] w fun e w'=>e= .returned (.tuple #[.int .i64 epoch, .string key, .string data])∧w'=w.drew:=by
 go_enter Tryz.func37,Tryz.ntmps37
 go_wp2_with fail
 refine(rU vb jb bb key data xv sv cv rv _ h).mono ?_
 rintro e w' ⟨rfl,rfl⟩
 go_wp2_with fail
 refine wp_region_held_drew (S:=fun wx=>wx.cell? ⟨vb,5,none⟩=some (.pointer (some ⟨bb,0,none⟩))∧wx.cell? ⟨vb,1,none⟩=some (.string key)∧wx.cell? ⟨vb,2,none⟩=some (.string data)) (by kernel_rfl) (⟨h.drew.cell (i:=5) rfl,h.drew.cell (i:=1) rfl,h.drew.cell (i:=2) rfl⟩) (fun hHeld=> ?_)
 refine hp 0 ?_
 refine hp 1 ?_
 refine hp 2 ?_
 refine hp 3 ?_
 refine hp 5 ?_
 refine hp 6 ?_
 refine hp 7 ?_
 refine hp 8 ?_
 refine hp 9 ?_
 refine hp 10 ?_
 refine hp 11 ?_
 refine hp 12 ?_
 refine wpAnyH_ready (rs:=[4]) (by kernel_rfl) (by simp) ?_
 refine AllReadyH.cons rfl (fun K hK=> ?_) AllReadyH.nil
 go_simp
 refine(eK bb c2 first epoch m1 m2 m3 _ hb.drew).mono ?_
 rintro e w' ⟨rfl,rfl⟩
 (try go_wp2_with fail)
 refine hK.out _ _ (⟨h.drew.cell (i:=5) rfl,h.drew.cell (i:=1) rfl,h.drew.cell (i:=2) rfl⟩) (fun hHeld2=> ?_)
 clear hK K hHeld
 have hHeld:=hHeld2
 clear hHeld2
 (try go_frame)
 refine hp 13 ?_
 refine hp 14 ?_
 refine hp 15 ?_
 refine wpAnyH_done (by kernel_rfl) ?_ _
 clear hHeld
 go_wp2_with fail
 (try simp only[Exit.inBlock,Exit.then]);refine bodyPost_ret (results_tmp3 rfl _ _ _) rfl ⟨rfl,rfl⟩
theorem wV (n:Nat) (v:Value) (i:Nat) (kb q:ByteArray) (h:2≤n):(bC n v i kb q).shown 1=q:=by
 show(((List.replicate n cn).set i kb).set 1 q).getD 1 ByteArray.empty=q
 rw[List.getD,List.getElem?_set_self (by simp;omega)]
 rfl
theorem oL (n:Nat) (v:Value) (i:Nat) (kb q:ByteArray) (h:i<n) (h1:i≠1):(bC n v i kb q).shown (i:Int)=kb:=by
 show(((List.replicate n cn).set i kb).set 1 q).getD i ByteArray.empty=kb
 rw[List.getD,List.getElem?_set_ne (by omega),List.getElem?_set_self (by simp;omega)]
 rfl
theorem ju (n:Nat) (v:Value) (i j:Nat) (kb q:ByteArray) (h:j<n) (h1:j≠1) (h2:j≠i):(bC n v i kb q).shown (j:Int)=(⟨(List.replicate 4096 0).toArray⟩:ByteArray):=by
 show(((List.replicate n cn).set i kb).set 1 q).getD j ByteArray.empty=cn
 rw[List.getD,List.getElem?_set_ne (by omega),List.getElem?_set_ne (by omega)]
 simp[h]
theorem ut (n:Nat) (v:Value) (i:Nat) (kb q:ByteArray):(bC n v i kb q).bs.length=n:=by
 show(((List.replicate n cn).set i kb).set 1 q).length=n
 simp
theorem uu {n ep:Nat} {lbas:Int} (hg:dx ⟨(n:Int),lbas,(ep:Int)⟩):gi (⟨1,((0:Nat):Int),(ep:Int),0,⟨(n:Int),lbas,(ep:Int)⟩⟩:aD):=by
 have h8:=hg.b0
 have h1:=hg.f1
 simp only at h8 h1
 refine⟨hg, ?_, ?_, ?_, ?_, ?_, ?_, ?_, ?_⟩<;>(try simp only)<;>omega
theorem zg (db n ep:Nat) (lbas:Int) (v:Value) (key kb q:ByteArray) (hg:dx ⟨(n:Int),lbas,(ep:Int)⟩) (hk:key.size=32) (tk:ak kb (fi (ep:Int) key.data.toList)) (tq:ak q (eB ⟨1,0,ep,0,⟨(n:Int),lbas,(ep:Int)⟩⟩)):
  ∀wx,az wx db (bC n v (2+ep % 2) kb q)→Calls Tryz.prog 259 #[.pointer (some ⟨db,0,none⟩)] wx fun e w'=>e= .returned (.tuple #[(⟨1,((0:Nat):Int),(ep:Int),0,⟨(n:Int),lbas,(ep:Int)⟩⟩:aD).v, .string key, .int .i64 0])∧Below wx.heap.size wx w':=by
 intro wx hx
 have h8:8≤n:=by have:=hg.b0;simp only at this;omega
 have h9:n≤1024:=by have:=hg.b1;simp only at this;omega
 have hl:=ut n v (2+ep % 2) kb q
 refine yW db _ ⟨1,((0:Nat):Int),(ep:Int),0,⟨(n:Int),lbas,(ep:Int)⟩⟩ ep key wx hx rfl (Nat.zero_le _) (by rw[hl];exact h9) (by rw[hl];omega) (uu hg) rfl (by rw[hl]) (ju n v _ 0 kb q (by omega) (by omega) (by omega)) ?_ hk ?_
 ·rw[wV n v _ kb q (by omega)];exact tq
 ·by_cases hp:ep % 2=0
  ·have e2:(bC n v (2+ep % 2) kb q).shown 2=kb:=by have:=oL n v (2+ep % 2) kb q (by omega) (by omega);rw[hp]at this ⊢;exact this
   simp only[hp,if_true]
   rw[hp]at e2
   rw[e2];exact tk
  ·have h1:ep % 2=1:=by omega
   have e2:(bC n v (2+ep % 2) kb q).shown 3=kb:=by have:=oL n v (2+ep % 2) kb q (by omega) (by omega);rw[h1]at this ⊢;exact this
   rw[if_neg hp]
   rw[e2];exact tk
theorem zh (n ep:Nat) (v:Value) (kb q:ByteArray) (h8:8≤n):(if ep % 2=0 then(bC n v (2+ep % 2) kb q).shown 3 else(bC n v (2+ep % 2) kb q).shown 2)=(⟨(List.replicate 4096 0).toArray⟩:ByteArray):=by
 by_cases hp:ep % 2=0
 ·rw[if_pos hp];exact ju n v _ 3 kb q (by omega) (by omega) (by omega)
 ·rw[if_neg hp];exact ju n v _ 2 kb q (by omega) (by omega) (by omega)
theorem eW.lower {w:World} {lo lo' vb jb sb db xb bb cb c2 m1 m2 m3:Nat} {ro:Option Addr} {key data:ByteArray} {gen clock n lbas first ep:Int} {d:am} (h:eW w lo vb jb sb db xb bb cb c2 m1 m2 m3 ro key data gen clock n lbas first ep d) (hl:lo'≤lo):eW w lo' vb jb sb db xb bb cb c2 m1 m2 m3 ro key data gen clock n lbas first ep d:=
 ⟨h.vol,h.jour,h.space,h.disk,h.index,h.book,h.bclock,h.clock,h.maps,⟨Nat.le_trans hl h.o.1,h.o.2⟩,⟨Nat.le_trans hl h.om.1,Nat.le_trans hl h.om.2.1,Nat.le_trans hl h.om.2.2⟩⟩
theorem eW.below {w w':World} {lo vb jb sb db xb bb cb c2 m1 m2 m3:Nat} {ro:Option Addr} {key data:ByteArray} {gen clock n lbas first ep:Int} {d:am} (h:eW w lo vb jb sb db xb bb cb c2 m1 m2 m3 ro key data gen clock n lbas first ep d) (hb:Below w.heap.size w w'):eW w' lo vb jb sb db xb bb cb c2 m1 m2 m3 ro key data gen clock n lbas first ep d:=
 ⟨h.vol.below hb h.vol.lt,h.jour.below hb h.jour.lt,h.space.below hb h.space.lt,h.disk.below hb,h.index.below hb h.index.lt,h.book.below hb h.book.lt,h.bclock.below hb h.bclock.lt,h.clock.below hb h.clock.lt,h.maps.below hb,h.o,h.om⟩
theorem zi (db n ep:Nat) (ro:Option Addr) (lbas:Int) (v:Value) (key data kb q:ByteArray) (w:World) (hg:dx ⟨(n:Int),lbas,(ep:Int)⟩) (hk:key.size=32) (tk:ak kb (fi (ep:Int) key.data.toList)) (tq:ak q (eB ⟨1,0,ep,0,⟨(n:Int),lbas,(ep:Int)⟩⟩))
  (hdata:data.size=16) (h:az w db (bC n v (2+ep % 2) kb q)):
  Calls Tryz.prog 82 #[.pointer (some ⟨db,0,none⟩), .string data, .pointer ro] w fun e w'=>(∃vb jb sb xb bb cb c2 m1 m2 m3,e= .returned (.tuple #[.pointer (some ⟨vb,0,none⟩), .int .i64 0])∧eW w' w.heap.size vb jb sb db xb bb cb c2 m1 m2 m3 ro key data 1 0 n lbas ep ep (bC n v (2+ep % 2) kb q))∧Below w.heap.size w w':=by
 have h8:8≤n:=by have:=hg.b0;simp only at this;omega
 have h9:n≤1024:=by have:=hg.b1;simp only at this;omega
 have hl:=ut n v (2+ep % 2) kb q
 exact wP db n ep ro 1 0 lbas (ep:Int) key data _ w h hdata rfl (uu hg) rfl (Nat.zero_le _) (by rw[hl];exact h9) hl (fun i h4 hi=>ju n v _ i kb q hi (by omega) (by omega)) (zh n ep v kb q h8) (zg db n ep lbas v key kb q hg hk tk tq)
def qV (s:UInt8×UInt8×UInt8):UInt8×UInt8×UInt8:=
 (if s.2.2&&&1=1 then s.1^^^s.2.1 else s.1,(s.2.1<<<1)^^^((s.2.1>>>7)*27),s.2.2>>>1)
def ES (a b:UInt8):Nat→UInt8×UInt8×UInt8
 |0=>(0,a,b)
 |k+1=>qV (ES a b k)
def DT (a b:UInt8):UInt8:=(ES a b 8).1
def tY (b n:UInt8):UInt8:=(b<<<n)|||(b>>>(8-n))
def tZ:Nat→UInt8×UInt8×List UInt8
 |0=>(1,1,List.replicate 256 0)
 |k+1=>
  let p:=DT (tZ k).1 3
  let q:=DT (tZ k).2.1 246
  (p,q,(tZ k).2.2.set p.toNat (q^^^tY q 1^^^tY q 2^^^tY q 3^^^tY q 4^^^99))
def DU:List UInt8:=(tZ 255).2.2.set 0 99
def zj (b:UInt8):UInt8:=DU.getD b.toNat 0
def Iu (w:List UInt8) (i:Nat) (power:UInt8):List UInt8:=
 let t:=(List.range 4).map fun r=>w.getD (4*(i-1)+r) 0
 if i % 4=0 then[zj (t.getD 1 0)^^^power,zj (t.getD 2 0),zj (t.getD 3 0),zj (t.getD 0 0)]else t
def jT (key:List UInt8):Nat→List UInt8×UInt8
 |0=>([],1)
 |i+1=>
  if i<4 then((jT key i).1++(List.range 4).map (fun r=>key.getD (4*i+r) 0),(jT key i).2)
  else((jT key i).1++(List.range 4).map (fun r=>(jT key i).1.getD (4*(i-4)+r) 0^^^(Iu (jT key i).1 i (jT key i).2).getD r 0),if i % 4=0 then DT (jT key i).2 2 else(jT key i).2)
def IK (key:List UInt8):List UInt8:=(jT key 44).1
theorem DV {P:UInt8→Prop} (h:∀n:Fin 256,P (UInt8.ofNat n.val)) (b:UInt8):P b:=by
 have:=h ⟨b.toNat,b.toNat_lt⟩
 simpa using this
theorem DW (y:UInt8):y&&&1=1↔(bits BinOp.and IntKind.u8 ((y.toNat:Nat):Int) 1==1)=true:=by
 refine DV (P:=fun y=>y&&&1=1↔(bits BinOp.and IntKind.u8 ((y.toNat:Nat):Int) 1==1)=true) ?_ y
 decide+kernel
theorem mul_one (n x y:UInt8) (h:(bits BinOp.and IntKind.u8 ((y.toNat:Nat):Int) 1==1)=true):qV (n,x,y)=(n^^^x,(x<<<1)^^^((x>>>7)*27),y>>>1):=by
 unfold qV;rw[if_pos ((DW y).2 h)]
structure zk (w wr:World) (xb b4 b3:Nat) (cur x by4:List UInt8):Prop where
 cur:ac wr xb (bytesV cur) 397
 was:ac wr b4 (bytesV x) 397
 by4:ac wr b3 (bytesV by4) 388
 t:ab [xb] w wr
theorem zk.drew {w wr:World} {xb b4 b3:Nat} {cur x by4:List UInt8} (h:zk w wr xb b4 b3 cur x by4):zk w wr.drew xb b4 b3 cur x by4:=⟨h.cur.drew,h.was.drew,h.by4.drew,h.t.drew⟩
structure gZ (w wr:World) (b2 b3 b4:Nat) (l:List UInt8):Prop where
 ws:ac wr b3 (bytesV l) 390
 box:ac wr b4 (bytesV DU) 392
 out:ac wr b2 (bytesV (List.replicate 176 0)) 390
 below:Below w.heap.size w wr
theorem gZ.next {w wr wx:World} {b2 b3 b4:Nat} {l:List UInt8} (h:gZ w wr b2 b3 b4 l) (hb:Below wr.heap.size wr wx):gZ w wx b2 b3 b4 l:=
 ⟨h.ws.below hb h.ws.lt,h.box.below hb h.box.lt,h.out.below hb h.out.lt,h.below.trans (hb.mono h.below.size)⟩
theorem gZ.set {w wr:World} {b2 b3 b4:Nat} {l:List UInt8} (h:gZ w wr b2 b3 b4 l) (hn:b2<b3∧b3<b4) (hl:w.heap.size≤b3) (i:Nat) (b:UInt8):gZ w (wr.setCell ⟨b3,i,none⟩ (.int .u8 ((b.toNat:Nat):Int))) b2 b3 b4 (l.set i b):=
 ⟨(h.ws.set i _).ext (fQ _ _ _),h.box.set_other (a:=⟨b3,i,none⟩) (by show b4≠b3;omega) _,h.out.set_other (a:=⟨b3,i,none⟩) (by show b2≠b3;omega) _,h.below.setCell (p:=⟨b3,i,none⟩) hl _⟩
theorem gZ.drew {w wr:World} {b2 b3 b4:Nat} {l:List UInt8} (h:gZ w wr b2 b3 b4 l):gZ w wr.drew b2 b3 b4 l:=⟨h.ws.drew,h.box.drew,h.out.drew,h.below.drew⟩
theorem gZ.only {w wr wx:World} {b2 b3 b4 b7:Nat} {l:List UInt8} (h:gZ w wr b2 b3 b4 l) (o:bH b7 wr wx) (hn:b2≠b7∧b3≠b7∧b4≠b7) (hl:w.heap.size≤b7):gZ w wx b2 b3 b4 l:=
 ⟨o.blk h.ws hn.2.1,o.blk h.box hn.2.2,o.blk h.out hn.1,o.below h.below hl⟩
def wW (W:List UInt8):List Value:= .bool true::(bytesV W++bytesV DU)
structure fM (w:World) (cb vb:Nat) (W:List UInt8):Prop where
 blk:ac w cb (wW W) 395
 var:ac w vb [.pointer (some ⟨cb,0,none⟩)] 329
theorem fM.below {w w':World} {cb vb:Nat} {W:List UInt8} (h:fM w cb vb W) (hb:Below w.heap.size w w'):fM w' cb vb W:=⟨h.blk.below hb h.blk.lt,h.var.below hb h.var.lt⟩
theorem fM.turned {w w':World} {cb vb:Nat} {W:List UInt8} {S:List Nat} (h:fM w cb vb W) (t:ab S w w') (h1:cb∉S) (h2:vb∉S):fM w' cb vb W:=⟨t.blk h.blk h1,t.blk h.var h2⟩
theorem fM.drew {w:World} {cb vb:Nat} {W:List UInt8} (h:fM w cb vb W):fM w.drew cb vb W:=⟨h.blk.drew,h.var.drew⟩
def uv (w:World) (b:Nat) (l:List UInt8):Prop:=Lib.IsBuilderF 219 5 b b (Lib.byteCells l) w
theorem uv.of {w:World} {b:Nat} {l:List UInt8} (h:fX w b l):uv w b l:=Lib.IsBuilderF.of h
theorem kx {T e:TypeId} {B b:Nat} {p:Value} {bs:List Value} {w w':World} (h:Lib.BuilderAtF T e B b p bs w) (hb:Below w.heap.size w w'):Lib.BuilderAtF T e B b p bs w':=by
 obtain⟨hB,v,hv,hown,hne⟩:=h
 have hlt:b<w.heap.size:=(Array.getElem?_eq_some_iff.1 hv).1
 refine⟨hB,v,by rw[hb.block b hlt,hv], ?_,hne⟩
 refine⟨hown.1, ?_⟩
 rcases hown.2 with hn|⟨g,cap,cur,fz,rfl,hg,hgg,rest⟩
 ·exact .inl hn
 ·refine .inr ⟨g,cap,cur,fz,rfl,hg, ?_,rest⟩
  rw[hb.block g (Array.getElem?_eq_some_iff.1 hgg).1]
  exact hgg
theorem uv.below {w w':World} {b:Nat} {l:List UInt8} (h:uv w b l) (hb:Below w.heap.size w w'):uv w' b l:=
 h.imp (fun h=>kx h hb) (fun h=>kx h hb)
structure IV (key W:List UInt8):Prop where
 e:IK key=W
 l:W.length=176
structure Ep (e s:Nat):Prop where
 e:e<4294967296
 s:s<4294967296
structure zl where
 epoch:Int
 slot:Int
 lba:Int
 gone:Bool
 cipher:ByteArray
def zl.cells (c:zl):List Value:=[.int .i64 c.epoch, .int .i64 c.slot, .int .i64 c.lba, .bool c.gone, .string c.cipher]
structure IX (c:zl):Prop where
 e0:0≤c.epoch
 e1:c.epoch≤4294967295
 s0:0≤c.slot
 s1:c.slot≤4294967295
 l0:0≤c.lba
 l1:c.lba≤4095
 n:c.cipher.size≤4000
 g:c.gone=true→c.cipher=⟨#[]⟩
def holdL (s:List UInt8):List UInt8:=ke ([3]++bT s) 4096
theorem uw (s:List UInt8) (h:s.length≤4000):(holdL s).length=4096:=kH (by rw[List.length_append,bQ];simp;omega)
theorem eb {v:aO}:(Tryz.prog.info? 171).map (·.size)=some v.cells.length:=by kernel_rfl
structure IY (v:aO):Prop where
 l0:0≤v.lba
 l1:v.lba≤4095
 e0:0≤v.epoch
 e1:v.epoch≤4294967295
 s0:0≤v.slot
 s1:v.slot≤4294967295
theorem oM (xb:Nat) (xv:Value) (w:World) (h:ac w xb [.bool true,xv] 263):
  Calls Tryz.prog 186 #[.pointer (some ⟨xb,0,none⟩)] w fun e w'=>e= .returned (.bool true)∧w=w':=by
 have c0:=h.cell (i:=0) rfl
 go_enter Tryz.func186,Tryz.ntmps186
 go_wp2_with fail
 go_ret
 exact⟨rfl,rfl⟩
theorem Fo {w:World} {g:Nat} {l:List aO} {z:List Value} {t:TypeId} (h:ac w g (cO l++z) t) {m:Nat} {x:aO} (hx:l[m]?=some x):w.rangeAt g (m*3) x.cells:=by
 have hl:=(List.getElem?_eq_some_iff.1 hx).1
 have hf:=DI l m x hx
 have h3:=uh l
 intro j u hu
 match j,hu with
 |0,hu=>simp[aO.cells]at hu;subst hu;exact h.cell (by rw[List.getElem?_append_left (by omega)];exact hf.1)
 |1,hu=>simp[aO.cells]at hu;subst hu;exact h.cell (by rw[List.getElem?_append_left (by omega)];exact hf.2.1)
 |2,hu=>simp[aO.cells]at hu;subst hu;exact h.cell (by rw[List.getElem?_append_left (by omega)];exact hf.2.2)
 |j+3,hu=>simp[aO.cells]at hu
structure IL (l:List aO) (v:aO) (i:Nat):Prop where
 le:i≤l.length
 ahead:∀(t:Nat) (x:aO),l[t]?=some x→t<i→Gx x v<0
 behind:∀(t:Nat) (x:aO),l[t]?=some x→i≤t→0≤Gx x v
theorem DX:(Tryz.prog.info? 171).map (fun i=>(i.zero,i.size,i.bytes))=some (some (.agg (aO.cells ⟨0,0,0⟩).toArray),3,24):=by kernel_rfl
theorem eC (i:aR) (v:bf) (w:World) (h:aP w i v):
  Calls Tryz.prog 49 #[.pointer (some ⟨i.vb,0,none⟩)] w fun e w'=>e= .returned (.bool true)∧w=w':=
 rU i.vb i.jb i.bb v.key v.data (.pointer (some ⟨i.xb,0,none⟩)) i.sv (.pointer (some ⟨i.cb,0,none⟩)) i.rv w h.vol
theorem wX (i:aR) (v:bf) (w:World) (h:aP w i v):
  Calls Tryz.prog 266 #[.pointer (some ⟨i.vb,0,none⟩)] w fun e w'=>e= .returned v.last.v∧Below w.heap.size w w':=by
 have H0:=Lib.hid h
 obtain⟨⟨gen,tail,epoch,clock,⟨blocks,lbas,first⟩⟩,hl⟩:∃s,v.last=s:=⟨_,rfl⟩
 have HL:=Lib.hid hl
 rw[hl]
 clear h hl
 go_enter Tryz.func266,Tryz.ntmps266
 go_wp2_with (first
  |((with_reducible refine af 174 _ dH (some 2) ?hgd ?ho ?hd ?_);(case hgd|ho|hd=>rfl);(intro b2 w1 l1 B1 e1 z1))
  |fail)
 have HB1:=Lib.hid B1
 have HL1:=Lib.hid l1
 have HBE1:=Lib.hid (e1.mono l1)
 have H1:=Lib.hid (H0.out.below HBE1.out)
 clear B1 e1 z1 l1
 refine(eC i v _ H1.out).mono ?_
 rintro e w' ⟨rfl,rfl⟩
 have c0:w1.cell? ⟨i.vb,0,none⟩=some (.pointer (some ⟨i.jb,0,none⟩)):=H1.out.vol.cell (i:=0) rfl
 go_wp2_with fail
 refine(jq i.jb i.db (.pointer (some ⟨i.sb,0,none⟩)) gen tail epoch clock blocks lbas first _ (by rw[←HL.out];exact H1.out.jour)).mono ?_
 rintro e w2 ⟨rfl,hb2⟩
 have HB2:=Lib.hid (HB1.out.below hb2 HB1.out.lt)
 have HBE2:=Lib.hid (HBE1.out.trans (hb2.mono HBE1.out.size))
 clear hb2 c0
 go_wp2_with (first
  |((with_reducible refine ae 174 (.tmp 2) (.tmp 11) b2 aD.zero.cells (aD.cells ⟨gen,tail,epoch,clock,⟨blocks,lbas,first⟩⟩) 174 HB2.out rfl aZ (dy _) ?hgd ?ho ?hx ?hy ?_);(case hgd|ho|hx|hy=>rfl);(intro w9 B9 o9))
  |fail)
 (try simp only[Exit.inBlock,Exit.then]);refine bodyPost_ret (dO rfl _ _ B9.range rfl Tryz.underlying174 rfl aZ) rfl ⟨rfl,o9.below HBE2.out HL1.out⟩
theorem rV (i:aR) (v:bf) (w:World) (h:aP w i v):
  Calls Tryz.prog 168 #[.pointer (some ⟨i.vb,0,none⟩)] w fun e w'=>e= .returned v.last.geo.v∧Below w.heap.size w w':=by
 have hfa:∀(a b c d e f g:Int) (w:World),Sem.run Tryz.prog (Instr.field 174 (.agg #[.int .i64 a, .int .i64 b, .int .i64 c, .int .i64 d, .int .i64 e, .int .i64 f, .int .i64 g]) 4) w= .ok (.agg #[.int .i64 e, .int .i64 f, .int .i64 g]) w:=fun _ _ _ _ _ _ _ _=>by kernel_rfl
 have H0:=Lib.hid h
 have HSU:=Lib.hid (fun(wx:World) (hx:aP wx i v)=>wX i v wx hx)
 obtain⟨⟨gen,tail,epoch,clock,⟨blocks,lbas,first⟩⟩,hl⟩:∃s,v.last=s:=⟨_,rfl⟩
 rw[hl]
 have HSV:=Lib.hid (fun(wx:World) (hx:aP wx i v)=>show Calls Tryz.prog 266 #[.pointer (some ⟨i.vb,0,none⟩)] wx fun e w'=>e= .returned (.agg #[.int .i64 gen, .int .i64 tail, .int .i64 epoch, .int .i64 clock, .int .i64 blocks, .int .i64 lbas, .int .i64 first])∧Below wx.heap.size wx w' from by have:=HSU.out wx hx;rw[hl]at this;exact this)
 clear h hl HSU
 go_enter Tryz.func168,Tryz.ntmps168
 go_wp2_with (first
  |((with_reducible refine af 31 _ rK (some 2) ?hgd ?ho ?hd ?_);(case hgd|ho|hd=>rfl);(intro b2 w1 l1 B1 e1 z1))
  |fail)
 have HB1:=Lib.hid B1
 have HL1:=Lib.hid l1
 have HBE1:=Lib.hid (e1.mono l1)
 have H1:=Lib.hid (H0.out.below HBE1.out)
 clear B1 e1 z1 l1
 refine(eC i v _ H1.out).mono ?_
 rintro e w' ⟨rfl,rfl⟩
 go_wp2_with fail
 refine(HSV.out _ H1.out).mono ?_
 rintro e w2 ⟨rfl,hb2⟩
 have HB2:=Lib.hid (HB1.out.below hb2 HB1.out.lt)
 have HBE2:=Lib.hid (HBE1.out.trans (hb2.mono HBE1.out.size))
 clear hb2
 go_wp2_with (first
  |((with_reducible refine ae 31 (.tmp 2) (.tmp 9) b2 aK.zero.cells (aK.cells ⟨blocks,lbas,first⟩) 31 HB2.out rfl bP (rH _) ?hgd ?ho ?hx ?hy ?_);(case hgd|ho|hx|hy=>rfl);(intro w9 B9 o9))
  |fail)
 (try simp only[Exit.inBlock,Exit.then]);refine bodyPost_ret (dO rfl _ _ B9.range rfl Tryz.underlying31 rfl bP) rfl ⟨rfl,o9.below HBE2.out HL1.out⟩
theorem wY (i:aR) (v:bf) (lba:Int) (w:World) (h:aP w i v) (h0:0≤lba) (h1:lba<v.last.geo.lbas):
  Calls Tryz.prog 91 #[.pointer (some ⟨i.vb,0,none⟩), .int .i64 lba] w fun e w'=>e= .returned (.int .i64 0)∧Below w.heap.size w w':=by
 have hfa:∀(a b c:Int) (w:World),Sem.run Tryz.prog (Instr.field 31 (.agg #[.int .i64 a, .int .i64 b, .int .i64 c]) 1) w= .ok (.int .i64 b) w:=fun _ _ _ _=>by kernel_rfl
 have HGE:=Lib.hid (fun(wx:World) (hx:aP wx i v)=>rV i v wx hx)
 obtain⟨⟨blocks,lbas,first⟩,hl⟩:∃s,v.last.geo=s:=⟨_,rfl⟩
 rw[hl]at h1
 have HGV:=Lib.hid (fun(wx:World) (hx:aP wx i v)=>show Calls Tryz.prog 168 #[.pointer (some ⟨i.vb,0,none⟩)] wx fun e w'=>e= .returned (.agg #[.int .i64 blocks, .int .i64 lbas, .int .i64 first])∧Below wx.heap.size wx w' from by have:=HGE.out wx hx;rw[hl]at this;exact this)
 simp only at h1
 clear hl HGE
 go_enter Tryz.func91,Tryz.ntmps91
 go_wp2_with fail
 refine(eC i v _ h).mono ?_
 rintro e w' ⟨rfl,rfl⟩
 go_wp2_with fail
 refine(HGV.out _ h).mono ?_
 rintro e w2 ⟨rfl,hb2⟩
 have HB2:=Lib.hid hb2
 clear hb2
 go_wp2_with fail
 go_ret
 exact⟨rfl,HB2.out⟩
theorem qW (v:Value) (n:Nat) (xs:List aO) (w:World) (h:w.ownsRow 0 171 3 v n (cO xs)) (hn:n≤4096):
  Calls Tryz.prog 268 #[v] w fun e w'=>(∃v',e= .returned v'∧w'.ownsRow w.heap.size 171 3 v' n (cO xs))∧Below w.heap.size w w':=by
 obtain⟨i0,hi,hz0,hz1,hz2⟩:=info_parts DX
 rcases h.2 with⟨rfl,rfl⟩|⟨g,cap,cur,rfl,_⟩
 ·have hx:(cO xs)=([]:List Value):=List.eq_nil_of_length_eq_zero (by simpa using h.1)
  have HX:=Lib.hid hx
  clear hx h
  have hnn:∀w,(binOp .eql 251 (.slice none 0 0) (.slice none 0 0)).run Tryz.prog w= .ok (.bool true) w:=fun w=>Lib.run_eql_slice_nil w 251 171 none 0 0 0 0 Tryz.underlying251
  go_enter Tryz.func268,Tryz.ntmps268
  go_wp2_with fail
  go_ret
  exact⟨⟨_,rfl,by rw[HX.out];exact World.ownsRow_nil _ _ _ _⟩,Below.refl _ _⟩
 ·have HG:=Lib.hid h
  have hnn:∀w,(binOp .eql 251 (.slice (some ⟨g,0,none⟩) n cap) (.slice none 0 0)).run Tryz.prog w= .ok (.bool false) w:=fun w=>Lib.run_eql_slice_nil w 251 171 (some ⟨g,0,none⟩) n cap 0 0 Tryz.underlying251
  have hcs:∀j u,(cO xs)[j]?=some u→(w.alloc (.cells #[] 171)).cell? ((⟨g,0,none⟩:Addr).add j)=some u:=fun j u hu=>(World.ownsRow.alloc h _).cells (g:=g) rfl j u hu
  have HCS:=Lib.hid hcs
  have HL:=Lib.hid h.1
  have HONE:=Lib.hid (show ∀u∈(cO xs),u.oneCell'=true from AQ xs)
  clear h hcs
  go_enter Tryz.func268,Tryz.ntmps268
  go_wp2_with (first
   |(at_builtin;refine wpList_append_own_wide _ rfl _ _ 251 rfl w.heap.size 171 i0 (.agg (aO.cells ⟨0,0,0⟩).toArray) 3 24 Tryz.underlying251 hi hz0 hz1 hz2 rfl (by decide) _ 0 [] rfl (World.ownsRow_lit w #[] 0 (Nat.le_refl _) (by decide) rfl) ⟨g,0,none⟩ n cap (cO xs) rfl HL.out HCS.out HONE.out (by unfold maxLen;omega) (by omega) (by simp) ?_;intro v' w8 own8 grow8 nil8)
   |fail)
  have hb8:Below w.heap.size w w8:=fK ((Below.refl _ _).alloc (Nat.le_refl _) _) (World.ownsRow_lit (e:=171) (size:=3) w #[] 0 (Nat.le_refl _) (by decide) rfl) grow8 (Nat.le_refl _) (by simp)
  rw[Nat.zero_add,List.nil_append]at own8
  have OWN:=Lib.hid own8
  obtain⟨p,c',hv⟩:=aQ own8
  subst hv
  clear own8 grow8 nil8
  go_ret
  exact⟨⟨_,rfl,OWN.out⟩,hb8⟩
theorem A3 (xb n:Nat) (xv:Value) (l:List aO) (w:World) (hX:ac w xb [.bool true,xv] 263) (hR:w.ownsRow 0 171 3 xv n (cO l)) (hn:n≤4096):
  Calls Tryz.prog 173 #[.pointer (some ⟨xb,0,none⟩)] w fun e w'=>(∃v',e= .returned v'∧w'.ownsRow w.heap.size 171 3 v' n (cO l))∧Below w.heap.size w w':=by
 obtain⟨p,c,hpc⟩:=aQ hR
 subst hpc
 have c1:=hX.cell (i:=1) rfl
 go_enter Tryz.func173,Tryz.ntmps173
 go_wp2_with fail
 refine(oM xb _ _ hX).mono ?_
 rintro e w' ⟨rfl,rfl⟩
 go_wp2_with fail
 refine(qW _ n l _ hR hn).mono ?_
 rintro e w1 ⟨⟨v',rfl,hv'⟩,hb⟩
 go_wp2_with fail
 go_ret
 exact⟨⟨v',rfl,hv'⟩,hb⟩
def yE (lba epoch:Int) (x:aO):Prop:=x.lba<lba∨(x.lba=lba∧x.epoch≤epoch)
instance (lba epoch:Int) (x:aO):Decidable (yE lba epoch x):=by unfold yE;exact inferInstance
structure GE (l:List aO) (lba epoch:Int) (i:Nat):Prop where
 le:i≤l.length
 ahead:∀(t:Nat) (x:aO),l[t]?=some x→t<i→yE lba epoch x
 behind:∀(t:Nat) (x:aO),l[t]?=some x→i≤t→¬yE lba epoch x
theorem io (x:aO):∀v∈x.cells,v.oneCell'=true:=by intro v hv;simp[aO.cells]at hv;rcases hv with rfl|rfl|rfl<;>rfl
theorem jg (w:World):Sem.run Tryz.prog (zeroValue 171) w= .ok (.agg (aO.cells ⟨0,0,0⟩).toArray) w:=by kernel_rfl
structure IM (l:List aO) (lba epoch:Int) (x:aO):Prop where
 at_:∃k:Nat,GE l lba epoch (k+1)∧l[k]?=some x
 pl:x.lba=lba
 mono:∀(i j:Nat) (a b:aO),l[i]?=some a→l[j]?=some b→i≤j→yE lba epoch b→yE lba epoch a
end Go.Proofs.YtngiibgdgenidaaGreat
