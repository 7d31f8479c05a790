/- Walks of wire's part: record, receipt, both ways, with their closures (chapter 27). Walk of wire's part: path, both ways (chapter 27). Walk of wire's part: told, both ways (chapter 27). -/
import Derived.Test.YtngiibgdgenidaaGreatQ21
set_option linter.unusedSimpArgs false
set_option linter.unusedVariables false
set_option maxRecDepth 100000
set_option maxHeartbeats 4000000
namespace Go.Proofs.YtngiibgdgenidaaGreat
open Go Go.RowKit
theorem ac.part {w:World} {b:Nat} {x y z:List Value} {t:TypeId} (h:ac w b (x++y++z) t) {off:Nat} (ho:off=x.length):w.rangeAt b off y:=h.rangeMid ho
theorem aa.recAt (m:aa) (u l:Value):m.cells u l=(m.cells u l).take 8++m.sld.r.cells++(m.cells u l).drop 16:=rfl
theorem aa.rcpAt (m:aa) (u l:Value):m.cells u l=(m.cells u l).take 30++m.rcp.cells++(m.cells u l).drop 41:=rfl
theorem uY (s:ByteArray) (vb b:Nat) (m:aa) (u l:Value) (w:World) (hv:ac w vb [.pointer (some ⟨b,8,none⟩)] 296) (hb:ac w b (m.cells u l) 73) (hne:b≠vb) (hs:s.size≤1048576):
  Calls Tryz.prog 297 #[.string s, .pointer (some ⟨vb,0,none⟩)] w fun e w'=>
   ∃x left f,e= .returned (.tuple #[.string left, .int .i64 f])∧ac w' b (({m with sld:=⟨x,m.sld.tag⟩}).cells u l) 73∧ab [b] w w'∧((f=0∧bM s.data.toList=some (x,left.data.toList))∨(f=3∧bM s.data.toList=none)):=by
 have HV:=Lib.hid hv;have HBL:=Lib.hid hb
 clear hv hb
 go_enter Tryz.func297,Tryz.ntmps297
 go_wp2_with fail
 refine(nn s _ (by omega)).mono ?_
 rintro e w1 ⟨he,hb1⟩
 obtain⟨x,y,f,rfl,hx⟩:∃x y f,e= .returned (.tuple #[x.v, .string y, .int .i64 f])∧((f=0∧bM s.data.toList=some (x,y.data.toList))∨(f=3∧bM s.data.toList=none)):=by
  rcases he with⟨x,left,y,h1,h2,h3⟩|⟨h1,h2⟩
  ·exact⟨x,y,0,h2, .inl ⟨rfl,by rw[h1,show y.data.toList= _ from h3]⟩⟩
  ·exact⟨_,_,3,h2, .inr ⟨rfl,h1⟩⟩
 have HX:=Lib.hid hx
 have V1:=Lib.hid (HV.out.below hb1 HV.out.lt)
 have B1:=Lib.hid (HBL.out.below hb1 HBL.out.lt)
 have T1:Hid (ab [b] w w1):=Lib.hid (ab.of_below hb1 (Nat.le_refl _))
 clear he hx hb1 HV HBL
 go_wp2_with (first
  |((with_reducible refine af 59 Rec.zero.cells pE (some 5) ?hgd ?ho ?hd ?_);(case hgd|ho|hd=>rfl);(intro b2 w2 l2 B2 e2 z2);have BB2:=B1.out.below e2 (Nat.lt_of_lt_of_le B1.out.lt l2);have VV2:=V1.out.below e2 (Nat.lt_of_lt_of_le V1.out.lt l2))
  |((with_reducible refine ae 59 (.tmp 5) (.tmp 11) b2 Rec.zero.cells x.cells 59 B2 rfl aS (Rec.cells_one1 _) ?hgd ?ho ?hx ?hy ?_);(case hgd|ho|hx|hy=>rfl);(intro w3 B3 o3);have BB3:=o3.blk BB2 (by have:=B1.out.lt;omega);have VV3:=o3.blk VV2 (by have:=V1.out.lt;omega);have v3:=VV3.cell (i:=0) rfl;have T3:ab [b] w w3:=T1.out.trans ⟨by rw[o3.os,e2.os],by rw[o3.tape,e2.tape],by rw[o3.output,e2.output],by rw[o3.size];exact e2.size,fun k hk hn=>by rw[o3.block k (by omega),e2.block k (by omega)]⟩)
  |((with_reducible refine ag 59 (.tmp 5) b2 0 x.cells _ (some 15) B3.range Tryz.underlying59 rfl aS ?hg ?ho ?hds ?hx ?_);(case hg|ho|hds|hx=>rfl))
  |((with_reducible refine bG 59 (.tmp 16) (.tmp 15) b 8 x.cells _ _ BB3 (Nat.le_of_ble_eq_true rfl) aS (Rec.cells_one1 _) ?hgd ?ho ?hx ?hy ?_);(case hgd|ho|hx|hy=>rfl);(intro w4 B4 o4);replace B4:ac w4 b (({m with sld:=⟨x,m.sld.tag⟩}).cells u l) 73:=B4)
  |fail)
 go_ret2
 refine⟨x,_,f,rfl,B4, ?_,HX.out⟩
 exact T3.trans (o4.turned (by simp))
theorem uZ (q:Nat) (s:ByteArray) (br:Bool) (vb b:Nat) (m:aa) (u l:Value) (w:World) (hp:aI w q s true br) (hv:ac w vb [.pointer (some ⟨b,8,none⟩)] 296) (hb:ac w b (m.cells u l) 73) (hne:b≠vb) (hbq:b≠q) (hs:s.size≤1048576):
  Calls Tryz.prog 296 #[.pointer (some ⟨q,0,none⟩), .func (.func 297) #[] #[.pointer (some ⟨vb,0,none⟩)]] w
   (iP w q b true br 41 73 (bM s.data.toList) (fun x=>({m with sld:=⟨x,m.sld.tag⟩}).cells u l)):=by
 have c0:=hp.c0
 have HP:=Lib.hid hp
 clear hp
 go_enter Tryz.func296,Tryz.ntmps296
 go_wp2_with fail
 refine(uY s vb b m u l _ hv hb hne hs).mono ?_
 rintro e w1 ⟨x,left,f,rfl,B1,T1,hf⟩
 have P1:=HP.out.turned T1 (by simp;exact fun e=>hbq e.symm)
 have HB:=Lib.hid B1;have HT:=Lib.hid T1;have HPP:=Lib.hid P1
 clear B1 T1 P1 c0 hv hb
 have p0:=HPP.out.c0
 have pf:=ac.free HPP.out 0
 rcases hf with⟨rfl,hc⟩|⟨rfl,hc⟩
 ·have HC:=Lib.hid hc
  clear hc
  go_wp2_with fail
  first|go_end0|((try simp only[Exit.inBlock,Exit.then]);refine bodyPost_ret (results_none rfl _ _ _) rfl ?_)
  rw[HC.out]
  exact⟨rfl,⟨left,ak.self left,HPP.out.set left⟩,HB.out.set_other hbq _,(HT.out.mono (by simp)).setCell (.inl (by simp)) 0 _⟩
 ·have HC:=Lib.hid hc
  clear hc
  go_wp2_with fail
  refine⟨rfl, ?_⟩
  rw[HC.out]
  exact⟨rfl,⟨_,rfl,HB.out⟩,HT.out.mono (by simp)⟩
theorem zG (q:Nat) (s:ByteArray) (rd br:Bool) (b:Nat) (m:aa) (u l:Value) (w:World) (hp:aI w q s rd br) (hb:ac w b (m.cells u l) 73) (hne:b≠q)
  (hs:s.size≤1048576) (hx:rd=false→aE m.sld.r=true):
  Calls Tryz.prog 229 #[.pointer (some ⟨q,0,none⟩), .pointer (some ⟨b,8,none⟩)] w
   (iP w q b rd br 41 73 (lB rd m.sld.r s.data.toList) (fun x=>({m with sld:=⟨x,m.sld.tag⟩}).cells u l)):=by
 have HP:=Lib.hid hp;have HBL:=Lib.hid hb
 have hmf:=uX
 clear hp hb
 cases rd with
 |true=>
  go_enter Tryz.func229,Tryz.ntmps229
  go_wp2_with (first
   |((with_reducible refine aw 296 (.tmp 1) (.pointer (some ⟨b,8,none⟩)) rfl (some 3) ?hgd ?ho ?hd ?hx ?_);(case hgd|ho|hd|hx=>rfl);(intro b3 w3 l3 B3 e3 z3);have PP3:=HP.out.below e3 (Nat.lt_of_lt_of_le HP.out.lt l3);have q3:=PP3.c1)
   |fail)
  have BB3:=HBL.out.below e3 (Nat.lt_of_lt_of_le HBL.out.lt l3)
  have HPP:=Lib.hid PP3;have HB3:=Lib.hid BB3;have HV:=Lib.hid B3
  have T3:Hid (ab [q,b] w w3):=Lib.hid (ab.of_below e3 l3)
  have hb3:b≠b3:=by have:=HBL.out.lt;omega
  clear PP3 BB3 B3 e3 z3 q3
  refine(uZ q s br b3 b m u l _ HPP.out HV.out HB3.out hb3 hne hs).mono ?_
  rintro e w4 he
  have HX2:=Lib.hid (show lB true m.sld.r s.data.toList=bM s.data.toList from rfl)
  cases h1:bM s.data.toList with
  |none=>
   rw[h1]at he
   obtain⟨rfl,hbad⟩:=he
   have H1:=Lib.hid h1
   have HBAD:=Lib.hid (hbad.sofar T3.out)
   clear h1 hbad
   go_wp2_with fail
   refine⟨rfl, ?_⟩
   rw[HX2.out,H1.out]
   exact⟨rfl,HBAD.out⟩
  |some p=>
   obtain⟨y,s'⟩:=p
   rw[h1]at he
   obtain⟨rfl,hd⟩:=he
   have H1:=Lib.hid h1
   have HD:=Lib.hid (hd.sofar T3.out)
   clear h1 hd
   go_wp2_with fail
   first|go_end0|((try simp only[Exit.inBlock,Exit.then]);refine bodyPost_ret (results_none rfl _ _ _) rfl ?_)
   rw[HX2.out,H1.out]
   exact⟨rfl,HD.out⟩
 |false=>
  have hok:=hx rfl
  have hf:=dc hok
  have HOK:=Lib.hid hok
  have HF:=Lib.hid (show m.sld.r.root.size≤1048576∧m.sld.r.name.size≤1048576∧Fits m.sld.r.epoch by unfold Fits;omega)
  skip
  clear hx hf hok
  go_enter Tryz.func229,Tryz.ntmps229
  go_wp2_with (first
   |((with_reducible refine aw 296 (.tmp 1) (.pointer (some ⟨b,8,none⟩)) rfl (some 3) ?hgd ?ho ?hd ?hx ?_);(case hgd|ho|hd|hx=>rfl);(intro b3 w3 l3 B3 e3 z3);have PP3:=HP.out.below e3 (Nat.lt_of_lt_of_le HP.out.lt l3);have q3:=PP3.c1;have v3:=B3.cell (i:=0) rfl;have BB3:=HBL.out.below e3 (Nat.lt_of_lt_of_le HBL.out.lt l3);have RR3:w3.rangeAt b 8 (m.sld.r).cells:=(BB3.ext (m.recAt u l)).part rfl)
   |((with_reducible refine ag 59 (.tmp 13) b 8 (m.sld.r).cells _ (some 14) RR3 Tryz.underlying59 rfl aS ?hg ?ho ?hds ?hx ?_);(case hg|ho|hds|hx=>rfl))
   |fail)
  have T3:Hid (ab [q,b] w w3):=Lib.hid (ab.of_below e3 l3)
  have HPP:=Lib.hid PP3;have HB3:=Lib.hid BB3
  clear PP3 BB3 B3 e3 z3 q3 v3 RR3
  refine(jr m.sld.r _ HF.out.1 HF.out.2.1 HF.out.2.2).mono ?_
  rintro e w4 ⟨he,hb4⟩
  obtain⟨r,rfl,tr⟩:∃r,e= .returned (.tuple #[.string r, .int .i64 0])∧ak r (cz m.sld.r):=by
   rcases he with⟨_,r,h1,h2⟩|⟨h1,_⟩
   ·exact⟨r,h1,h2⟩
   ·rw[HOK.out]at h1;cases h1
  have hr:r.size≤200:=by rw[tr.size];exact Nat.le_trans (cP HOK.out) (by omega)
  have P4:=HPP.out.below hb4 HPP.out.lt
  have B4:=Lib.hid (HB3.out.below hb4 HB3.out.lt)
  have T4:=Lib.hid (T3.out.trans (ab.of_below hb4 (Nat.le_refl _)))
  have p0:=P4.c0
  have pf:=ac.free P4 0
  have HP4:=Lib.hid P4;have TR:=Lib.hid tr
  clear P4 tr he hb4 HPP HB3 T3
  go_wp2_with fail
  first|go_end0|((try simp only[Exit.inBlock,Exit.then]);refine bodyPost_ret (results_none rfl _ _ _) rfl ?_)
  refine⟨rfl,⟨_,TR.out.extend,HP4.out.set _⟩,B4.out.set_other hne _,T4.out.setCell (.inl (by simp)) 0 _⟩
theorem sX (s:ByteArray) (vb b:Nat) (m:aa) (u l:Value) (w:World) (hv:ac w vb [.pointer (some ⟨b,30,none⟩)] 302) (hb:ac w b (m.cells u l) 73) (hne:b≠vb) (hs:s.size≤1048576):
  Calls Tryz.prog 303 #[.string s, .pointer (some ⟨vb,0,none⟩)] w fun e w'=>
   ∃x left f,e= .returned (.tuple #[.string left, .int .i64 f])∧ac w' b (({m with rcp:=x}).cells u l) 73∧ab [b] w w'∧((f=0∧cG s.data.toList=some (x,left.data.toList))∨(f=3∧cG s.data.toList=none)):=by
 have HV:=Lib.hid hv;have HBL:=Lib.hid hb
 clear hv hb
 go_enter Tryz.func303,Tryz.ntmps303
 go_wp2_with fail
 refine(uT s _ (by omega)).mono ?_
 rintro e w1 ⟨he,hb1⟩
 obtain⟨x,y,f,rfl,hx⟩:∃x y f,e= .returned (.tuple #[x.v, .string y, .int .i64 f])∧((f=0∧cG s.data.toList=some (x,y.data.toList))∨(f=3∧cG s.data.toList=none)):=by
  rcases he with⟨x,left,y,h1,h2,h3⟩|⟨h1,h2⟩
  ·exact⟨x,y,0,h2, .inl ⟨rfl,by rw[h1,show y.data.toList= _ from h3]⟩⟩
  ·exact⟨_,_,3,h2, .inr ⟨rfl,h1⟩⟩
 have HX:=Lib.hid hx
 have V1:=Lib.hid (HV.out.below hb1 HV.out.lt)
 have B1:=Lib.hid (HBL.out.below hb1 HBL.out.lt)
 have T1:Hid (ab [b] w w1):=Lib.hid (ab.of_below hb1 (Nat.le_refl _))
 clear he hx hb1 HV HBL
 go_wp2_with (first
  |((with_reducible refine af 71 aH.zero.cells iC (some 5) ?hgd ?ho ?hd ?_);(case hgd|ho|hd=>rfl);(intro b2 w2 l2 B2 e2 z2);have BB2:=B1.out.below e2 (Nat.lt_of_lt_of_le B1.out.lt l2);have VV2:=V1.out.below e2 (Nat.lt_of_lt_of_le V1.out.lt l2))
  |((with_reducible refine ae 71 (.tmp 5) (.tmp 11) b2 aH.zero.cells x.cells 71 B2 rfl bI (aH.cells_one _) ?hgd ?ho ?hx ?hy ?_);(case hgd|ho|hx|hy=>rfl);(intro w3 B3 o3);have BB3:=o3.blk BB2 (by have:=B1.out.lt;omega);have VV3:=o3.blk VV2 (by have:=V1.out.lt;omega);have v3:=VV3.cell (i:=0) rfl;have T3:ab [b] w w3:=T1.out.trans ⟨by rw[o3.os,e2.os],by rw[o3.tape,e2.tape],by rw[o3.output,e2.output],by rw[o3.size];exact e2.size,fun k hk hn=>by rw[o3.block k (by omega),e2.block k (by omega)]⟩)
  |((with_reducible refine ag 71 (.tmp 5) b2 0 x.cells _ (some 15) B3.range Tryz.underlying71 rfl bI ?hg ?ho ?hds ?hx ?_);(case hg|ho|hds|hx=>rfl))
  |((with_reducible refine bG 71 (.tmp 16) (.tmp 15) b 30 x.cells _ _ BB3 (Nat.le_of_ble_eq_true rfl) bI (aH.cells_one _) ?hgd ?ho ?hx ?hy ?_);(case hgd|ho|hx|hy=>rfl);(intro w4 B4 o4);replace B4:ac w4 b (({m with rcp:=x}).cells u l) 73:=B4)
  |fail)
 go_ret2
 refine⟨x,_,f,rfl,B4, ?_,HX.out⟩
 exact T3.trans (o4.turned (by simp))
theorem u3 (q:Nat) (s:ByteArray) (br:Bool) (vb b:Nat) (m:aa) (u l:Value) (w:World) (hp:aI w q s true br) (hv:ac w vb [.pointer (some ⟨b,30,none⟩)] 302) (hb:ac w b (m.cells u l) 73) (hne:b≠vb) (hbq:b≠q) (hs:s.size≤1048576):
  Calls Tryz.prog 296 #[.pointer (some ⟨q,0,none⟩), .func (.func 303) #[] #[.pointer (some ⟨vb,0,none⟩)]] w
   (iP w q b true br 41 73 (cG s.data.toList) (fun x=>({m with rcp:=x}).cells u l)):=by
 have c0:=hp.c0
 have HP:=Lib.hid hp
 clear hp
 go_enter Tryz.func296,Tryz.ntmps296
 go_wp2_with fail
 refine(sX s vb b m u l _ hv hb hne hs).mono ?_
 rintro e w1 ⟨x,left,f,rfl,B1,T1,hf⟩
 have P1:=HP.out.turned T1 (by simp;exact fun e=>hbq e.symm)
 have HB:=Lib.hid B1;have HT:=Lib.hid T1;have HPP:=Lib.hid P1
 clear B1 T1 P1 c0 hv hb
 have p0:=HPP.out.c0
 have pf:=ac.free HPP.out 0
 rcases hf with⟨rfl,hc⟩|⟨rfl,hc⟩
 ·have HC:=Lib.hid hc
  clear hc
  go_wp2_with fail
  first|go_end0|((try simp only[Exit.inBlock,Exit.then]);refine bodyPost_ret (results_none rfl _ _ _) rfl ?_)
  rw[HC.out]
  exact⟨rfl,⟨left,ak.self left,HPP.out.set left⟩,HB.out.set_other hbq _,(HT.out.mono (by simp)).setCell (.inl (by simp)) 0 _⟩
 ·have HC:=Lib.hid hc
  clear hc
  go_wp2_with fail
  refine⟨rfl, ?_⟩
  rw[HC.out]
  exact⟨rfl,⟨_,rfl,HB.out⟩,HT.out.mono (by simp)⟩
theorem xp (q:Nat) (s:ByteArray) (rd br:Bool) (b:Nat) (m:aa) (u l:Value) (w:World) (hp:aI w q s rd br) (hb:ac w b (m.cells u l) 73) (hne:b≠q)
  (hs:s.size≤1048576) (hx:rd=false→bX m.rcp=true):
  Calls Tryz.prog 232 #[.pointer (some ⟨q,0,none⟩), .pointer (some ⟨b,30,none⟩)] w
   (iP w q b rd br 41 73 (lC rd m.rcp s.data.toList) (fun x=>({m with rcp:=x}).cells u l)):=by
 have HP:=Lib.hid hp;have HBL:=Lib.hid hb
 have hmf:=uX
 clear hp hb
 cases rd with
 |true=>
  go_enter Tryz.func232,Tryz.ntmps232
  go_wp2_with (first
   |((with_reducible refine aw 302 (.tmp 1) (.pointer (some ⟨b,30,none⟩)) rfl (some 3) ?hgd ?ho ?hd ?hx ?_);(case hgd|ho|hd|hx=>rfl);(intro b3 w3 l3 B3 e3 z3);have PP3:=HP.out.below e3 (Nat.lt_of_lt_of_le HP.out.lt l3);have q3:=PP3.c1)
   |fail)
  have BB3:=HBL.out.below e3 (Nat.lt_of_lt_of_le HBL.out.lt l3)
  have HPP:=Lib.hid PP3;have HB3:=Lib.hid BB3;have HV:=Lib.hid B3
  have T3:Hid (ab [q,b] w w3):=Lib.hid (ab.of_below e3 l3)
  have hb3:b≠b3:=by have:=HBL.out.lt;omega
  clear PP3 BB3 B3 e3 z3 q3
  refine(u3 q s br b3 b m u l _ HPP.out HV.out HB3.out hb3 hne hs).mono ?_
  rintro e w4 he
  have HX2:=Lib.hid (show lC true m.rcp s.data.toList=cG s.data.toList from rfl)
  cases h1:cG s.data.toList with
  |none=>
   rw[h1]at he
   obtain⟨rfl,hbad⟩:=he
   have H1:=Lib.hid h1
   have HBAD:=Lib.hid (hbad.sofar T3.out)
   clear h1 hbad
   go_wp2_with fail
   refine⟨rfl, ?_⟩
   rw[HX2.out,H1.out]
   exact⟨rfl,HBAD.out⟩
  |some p=>
   obtain⟨y,s'⟩:=p
   rw[h1]at he
   obtain⟨rfl,hd⟩:=he
   have H1:=Lib.hid h1
   have HD:=Lib.hid (hd.sofar T3.out)
   clear h1 hd
   go_wp2_with fail
   first|go_end0|((try simp only[Exit.inBlock,Exit.then]);refine bodyPost_ret (results_none rfl _ _ _) rfl ?_)
   rw[HX2.out,H1.out]
   exact⟨rfl,HD.out⟩
 |false=>
  have hok:=hx rfl
  have hf:=dc (jC hok).1
  have HOK:=Lib.hid hok
  have HF:=Lib.hid (show m.rcp.r.root.size≤1048576∧m.rcp.r.name.size≤1048576∧Fits m.rcp.r.epoch by unfold Fits;omega)
  have HSQ:=Lib.hid (show Fits m.rcp.seq by simp only[bX,Bool.and_eq_true,decide_eq_true_eq]at hok;unfold Fits;omega)
  clear hx hf hok
  go_enter Tryz.func232,Tryz.ntmps232
  go_wp2_with (first
   |((with_reducible refine aw 302 (.tmp 1) (.pointer (some ⟨b,30,none⟩)) rfl (some 3) ?hgd ?ho ?hd ?hx ?_);(case hgd|ho|hd|hx=>rfl);(intro b3 w3 l3 B3 e3 z3);have PP3:=HP.out.below e3 (Nat.lt_of_lt_of_le HP.out.lt l3);have q3:=PP3.c1;have v3:=B3.cell (i:=0) rfl;have BB3:=HBL.out.below e3 (Nat.lt_of_lt_of_le HBL.out.lt l3);have RR3:w3.rangeAt b 30 (m.rcp).cells:=(BB3.ext (m.rcpAt u l)).part rfl)
   |((with_reducible refine ag 71 (.tmp 13) b 30 (m.rcp).cells _ (some 14) RR3 Tryz.underlying71 rfl bI ?hg ?ho ?hds ?hx ?_);(case hg|ho|hds|hx=>rfl))
   |fail)
  have T3:Hid (ab [q,b] w w3):=Lib.hid (ab.of_below e3 l3)
  have HPP:=Lib.hid PP3;have HB3:=Lib.hid BB3
  clear PP3 BB3 B3 e3 z3 q3 v3 RR3
  refine(oP m.rcp _ HF.out.1 HF.out.2.1 HF.out.2.2 HSQ.out).mono ?_
  rintro e w4 ⟨he,hb4⟩
  obtain⟨r,rfl,tr⟩:∃r,e= .returned (.tuple #[.string r, .int .i64 0])∧ak r (fW m.rcp):=by
   exact he.yes HOK.out
  have hr:r.size≤200:=by rw[tr.size];exact gY HOK.out
  have P4:=HPP.out.below hb4 HPP.out.lt
  have B4:=Lib.hid (HB3.out.below hb4 HB3.out.lt)
  have T4:=Lib.hid (T3.out.trans (ab.of_below hb4 (Nat.le_refl _)))
  have p0:=P4.c0
  have pf:=ac.free P4 0
  have HP4:=Lib.hid P4;have TR:=Lib.hid tr
  clear P4 tr he hb4 HPP HB3 T3
  go_wp2_with fail
  first|go_end0|((try simp only[Exit.inBlock,Exit.then]);refine bodyPost_ret (results_none rfl _ _ _) rfl ?_)
  refine⟨rfl,⟨_,TR.out.extend,HP4.out.set _⟩,B4.out.set_other hne _,T4.out.setCell (.inl (by simp)) 0 _⟩
theorem gm:(Tryz.prog.info? 9).map (fun i=>(i.zero,i.size,i.bytes))=some (some (.string ⟨#[]⟩),1,16):=by kernel_rfl
theorem BH (xs:List ByteArray) (k:Nat) (x:ByteArray) (h:xs[k]?=some x):((xs.take (k+1)).map (·.data.toList)).flatten=((xs.take k).map (·.data.toList)).flatten++x.data.toList:=by
 obtain⟨hk,rfl⟩:=List.getElem?_eq_some_iff.1 h
 rw[List.take_succ_eq_append_getElem hk]
 simp only[List.map_append,List.map_cons,List.map_nil,List.flatten_append,List.flatten_cons,List.flatten_nil,List.append_nil]
theorem Ea (xs:List ByteArray) (hx:∀x∈xs,x.size≤32):∀k,((xs.take k).map (·.data.toList)).flatten.length≤32*xs.length:=by
 intro k
 have:∀l:List ByteArray,(∀x∈l,x.size≤32)→(l.map (·.data.toList)).flatten.length≤32*l.length:=by
  intro l
  induction l with
  |nil=>intro _;simp
  |cons a l ih=>
   intro h
   have h1:=ih (fun x hx=>h x (by simp[hx]))
   have h2:a.data.toList.length≤32:=h a (by simp)
   simp only[List.map_cons,List.flatten_cons,List.length_append,List.length_cons]
   omega
 have h1:=this (xs.take k) (fun x h=>hx x (List.mem_of_mem_take h))
 rw[List.length_take]at h1
 omega
theorem GY (q:Nat) (s:ByteArray) (br:Bool) (b i:Nat) (v:Value) (xs:List ByteArray) (cs:List Value) (t:TypeId) (w:World) (hp:aI w q s false br) (hb:ac w b cs t) (hi:cs[i]?=some v) (hbq:b≠q) (hr:aC [q] w v xs)
  (hl:xs.length≤12) (hx:∀x∈xs,x.size≤32) (hs:s.size≤1040000):
  Calls Tryz.prog 302 #[.pointer (some ⟨q,0,none⟩), .pointer (some ⟨b,i,none⟩)] w fun e w'=>
   e= .returned (.tuple #[])∧∃s',ak s' (s.data.toList++jR xs)∧aI w' q s' false br∧ab [q] w w':=by
 have HP:=Lib.hid hp;have HBL:=Lib.hid hb;have HX:=Lib.hid hx;have HR:=Lib.hid hr
 obtain⟨n,hn⟩:∃n,n=xs.length:=⟨_,rfl⟩
 have hn12:n≤12:=by omega
 obtain⟨pp,cc,hv⟩:=hr.shape
 rw[←hn]at hv
 have HN:=Lib.hid hn;have HV:=Lib.hid hv
 have HI:=Lib.hid (show cs[i]?=some (.slice pp n cc) by rw[hi,hv])
 have c0:=hb.cell (i:=i) HI.out
 have hlen:s.data.toList.length=s.size:=rfl
 have HLEN:=Lib.hid hlen
 clear hp hb hx hr hn hv hi hl hlen
 go_enter Tryz.func302,Tryz.ntmps302
 go_wp2_with (first
  |((with_reducible refine aG 3 (.int .i64 0) (by intro w;kernel_rfl) rfl (some 4) ?hgd ?ho ?hd ?_);(case hgd|ho|hd=>rfl);(intro b2 w2 l2 B2 e2 z2))
  |((with_reducible refine aj 3 (.tmp 4) (.tmp 9) b2 0 (.int .i64 (n:Int)) _ _ B2 (by simp) (by kernel_rfl) rfl ?hgd ?ho ?hx ?hy ?_);(case hgd|ho|hx|hy=>rfl);(intro w3 B3 o3))
  |fail)
 have BB:=Lib.hid (o3.blk (HBL.out.below e2 (Nat.lt_of_lt_of_le HBL.out.lt l2)) (by have:=HBL.out.lt;omega))
 have PP:Hid (aI w3 q s false br):=Lib.hid (o3.blk (HP.out.below e2 (Nat.lt_of_lt_of_le HP.out.lt l2)) (by have:=HP.out.lt;omega))
 have T0:Hid (ab [q] w w3):=Lib.hid ⟨by rw[o3.os,e2.os],by rw[o3.tape,e2.tape],by rw[o3.output,e2.output],by rw[o3.size];exact e2.size,fun k hk hn=>by rw[o3.block k (by omega),e2.block k (by omega)]⟩
 have hnc:w3.cell? ⟨b2,0,none⟩=some (.int .i64 (n:Int)):=B3.cell rfl
 clear B2 B3 o3 e2 z2 l2 c0
 refine(uU q s br b2 0 n 1 _ PP.out hnc (by omega) (by omega) (by omega) (fun _=>by omega) (by omega)).mono ?_
 rintro e w5 ⟨rfl,p1,tp1,hp1,hk1⟩
 have B5:=Lib.hid (hk1.blk BB.out hbq)
 have T5:=Lib.hid (T0.out.trans (ab.of_kept hk1 (by simp)))
 have HP1:=Lib.hid hp1;have TP1:=Lib.hid tp1
 have c1:=HP1.out.c1
 have c5:=B5.out.cell (i:=i) HI.out
 have hw5:b<w5.heap.size:=B5.out.lt
 clear hnc hk1 hp1 tp1 PP BB T0
 go_wp2_with fail
 clear c1 c5
 go_loopw [24] (fun vi wr=>∃(k:Nat) (s':ByteArray),k≤n∧vi= .int .i64 k∧ak s' (s.data.toList++beBytes 1 n++((xs.take k).map (·.data.toList)).flatten)∧aI wr q s' false br∧ab [q] w5 wr) (fun vi _=>n-(intOf vi).toNat)
 case atStart=>exact⟨0,p1,by omega,rfl,by simpa using TP1.out,HP1.out,ab.refl _ _⟩
 case round=>
  obtain⟨k,s',hk,rfl,ts',hp',ht'⟩:=hrel
  have TS:=Lib.hid ts';have HPR:=Lib.hid hp';have HTR:=Lib.hid ht'
  have hsz:s'.size≤1048576:=by
   rw[ts'.size,List.length_append,List.length_append,beBytes_length]
   have:=Ea xs HX.out k
   have:=HN.out
   have:=HLEN.out
   omega
  clear ts' hp' ht'
  by_cases hlt:k<n
  ·have hlt':(k:Int)<n:=by omega
   have h00:(0:Int)≤(k:Int):=by omega
   obtain⟨x,hx⟩:∃x,xs[k]?=some x:=⟨_,List.getElem?_eq_getElem (by rw[←HN.out];exact hlt)⟩
   have HXK:=Lib.hid hx
   have hxs:x.size≤1048576:=Nat.le_trans (HX.out x (List.mem_of_getElem? hx)) (by omega)
   have hrow:=HR.out.turned (T5.out.trans HTR.out)
   obtain⟨g,go,hpp,hgq,hgc⟩:∃g go,pp=some ⟨g,go,none⟩∧g≠q∧wr.cell? ⟨g,go+k,none⟩=some (.string x):=by
    rcases hrow with⟨h2,_⟩|⟨g,go,c,h1,h2,hS,h3⟩
    ·have:=HN.out;rw[h2]at this;simp at this;omega
    ·have h4:=HV.out
     rw[h1,←HN.out]at h4
     injection h4 with h4 _ _
     exact⟨g,go,h4.symm,by simpa using hS,h3 k x hx⟩
   subst hpp
   have cb:=(HTR.out.blk B5.out (by simpa using hbq)).cell (i:=i) HI.out
   clear hx hrow
   go_wp2_with fail
   refine(BF q s' br g (go+k) x _ HPR.out hgc hsz hxs).mono ?_
   rintro e w6 ⟨rfl,hp6,hk6⟩
   have HP6:=Lib.hid hp6;have T6:=Lib.hid (HTR.out.trans (ab.of_kept hk6 (by simp)))
   clear hp6 hk6 cb hgc
   go_wp2_with fail
   go_roundw
   case rel=>
    refine⟨k+1,s'++x,by omega,by go_num, ?_,HP6.out,T6.out⟩
    rw[BH xs k x HXK.out]
    exact(TS.out.append (ak.self x)).cast (by simp)
   case measure=>simp[intOf];omega
  ·obtain rfl:k=n:=by omega
   go_wp2_with fail
   first|go_end0|((try simp only[Exit.inBlock,Exit.then]);refine bodyPost_ret (results_none rfl _ _ _) rfl ?_)
   refine⟨rfl,s',TS.out.cast ?_,HPR.out,T5.out.trans HTR.out⟩
   rw[HN.out,List.take_length]
   unfold jR
   simp
theorem zH {rd:Bool} {xs:List ByteArray} {s:List UInt8} {k n:Nat} (hk:k≤n) (h:dS rd xs s k=none):dS rd xs s n=none:=by
 induction n with
 |zero=>obtain rfl:k=0:=by omega
        exact h
 |succ n ih=>
  by_cases e:k=n+1
  ·subst e;exact h
  ·simp only[dS,ih (by omega)]
def ig (d:List ByteArray):List Value:=d.map Value.string
theorem BI (d:List ByteArray) (n k:Nat) (y:ByteArray) (hd:d.length=k) (hk:k<n):
  (ig d++List.replicate (n-k) (Value.string ⟨#[]⟩)).set k (.string y)=ig (d++[y])++List.replicate (n-(k+1)) (Value.string ⟨#[]⟩):=by
 obtain⟨m,hm⟩:∃m,n-k=m+1:=⟨n-k-1,by omega⟩
 have e:n-(k+1)=m:=by omega
 have hl:(ig d).length=k:=by simp[ig,hd]
 rw[hm,e,List.set_append_right _ _ (by omega),hl,Nat.sub_self,List.replicate_succ,List.set_cons_zero]
 simp[ig]
def E0 (F:List Nat) (w:World) (q b:Nat) (rd br:Bool) (n:Nat) (t:TypeId) (r:Option (List ByteArray×List UInt8)) (cs':Value→List Value) (e:Ending) (w':World):Prop:=
 match r with
 |none=>e= .panicked jI∧np w w' q b n t
 |some (ys,s')=>e= .returned (.tuple #[])∧∃v',ra w w' q b rd br s' (cs' v') t∧aC (q::b::F) w' v' ys
theorem GZ (F:List Nat) (q:Nat) (s:ByteArray) (br:Bool) (b i:Nat) (cs:List Value) (t:TypeId) (w:World) (hp:aI w q s true br) (hb:ac w b cs t) (hi:cs[i]?=some (.slice none 0 0)) (hbq:b≠q) (hs:s.size≤1040000) (hF:∀x∈F,x<w.heap.size):
  Calls Tryz.prog 302 #[.pointer (some ⟨q,0,none⟩), .pointer (some ⟨b,i,none⟩)] w
   (E0 F w q b true br cs.length t (dY true [] s.data.toList) (fun v=>cs.set i v)):=by
 have HFF:=Lib.hid hF;clear hF
 have HP:=Lib.hid hp;have HBL:=Lib.hid hb;have HI:=Lib.hid hi
 have hil:i<cs.length:=(List.getElem?_eq_some_iff.1 hi).1
 have c0:=hb.cell (i:=i) hi
 have hlen:s.data.toList.length=s.size:=rfl
 have HLEN:=Lib.hid hlen
 clear hp hb hi hlen
 go_enter Tryz.func302,Tryz.ntmps302
 go_wp2_with (first
  |((with_reducible refine aG 3 (.int .i64 0) (by intro w;kernel_rfl) rfl (some 4) ?hgd ?ho ?hd ?_);(case hgd|ho|hd=>rfl);(intro b2 w2 l2 B2 e2 z2))
  |((with_reducible refine aj 3 (.tmp 4) (.tmp 9) b2 0 (.int .i64 0) _ _ B2 (by simp) (by kernel_rfl) rfl ?hgd ?ho ?hx ?hy ?_);(case hgd|ho|hx|hy=>rfl);(intro w3 B3 o3))
  |fail)
 have BB:=Lib.hid (o3.blk (HBL.out.below e2 (Nat.lt_of_lt_of_le HBL.out.lt l2)) (by have:=HBL.out.lt;omega))
 have PP:Hid (aI w3 q s true br):=Lib.hid (o3.blk (HP.out.below e2 (Nat.lt_of_lt_of_le HP.out.lt l2)) (by have:=HP.out.lt;omega))
 have T0:Hid (ab [q,b] w w3):=Lib.hid ⟨by rw[o3.os,e2.os],by rw[o3.tape,e2.tape],by rw[o3.output,e2.output],by rw[o3.size];exact e2.size,fun k hk hn=>by rw[o3.block k (by omega),e2.block k (by omega)]⟩
 have hbq2:b2≠q:=by have:=HP.out.lt;omega
 have hbb:b≠b2:=by have:=HBL.out.lt;omega
 have HN:=Lib.hid B3;have hl2:=Lib.hid l2
 clear B2 B3 o3 e2 z2 l2 c0
 refine(bY q s true br b2 0 1 0 [.int .i64 0] 3 _ PP.out HN.out rfl hbq2 (by omega) (by omega) (fun e=>by cases e) (by omega)).mono ?_
 rintro e w5 he
 cases h1:bu true 1 0 s.data.toList with
 |none=>
  rw[h1]at he
  obtain⟨rfl,hbad⟩:=he
  have HF:=Lib.hid (show dY true [] s.data.toList=none by unfold dY;simp[h1])
  have HBAD:Hid (np w w5 q b cs.length t):=Lib.hid ⟨⟨cs,rfl,hbad.turned.blk BB.out (by simp;omega)⟩,T0.out.over hbad.turned hl2.out⟩
  clear hbad h1
  go_wp2_with fail
  refine⟨rfl, ?_⟩
  rw[HF.out]
  exact⟨rfl,HBAD.out⟩
 |some p=>
  obtain⟨n',s1⟩:=p
  rw[h1]at he
  obtain⟨rfl,hd⟩:=he
  have hn1:=uP h1 (fun e=>by cases e)
  obtain⟨n,rfl⟩:∃n:Nat,n'=(n:Int):=⟨n'.toNat,by omega⟩
  have hn:n≤255:=by omega
  have hF:dY true [] s.data.toList=dS true (List.replicate n ⟨#[]⟩) s1 n:=by
   unfold dY
   simp only[List.length_nil]
   rw[show bu true 1 ((0:Nat):Int) s.data.toList=bu true 1 0 s.data.toList from rfl,h1]
   simp
  obtain⟨p1,tp1,hp1⟩:=hd.part
  have hs1:p1.size≤1040002:=by rw[tp1.size];have:=cq h1;have:=HLEN.out;omega
  have B4:=Lib.hid (hd.turned.blk BB.out (by simp;omega))
  have T4:=Lib.hid (T0.out.over hd.turned hl2.out)
  have HF:=Lib.hid hF;have TP1:=Lib.hid tp1;have HP1:=Lib.hid hp1
  have q1:=HP1.out.c1
  have nc:w5.cell? ⟨b2,0,none⟩=some (.int .i64 (n:Int)):=hd.blk.cell rfl
  clear hd h1 tp1 hp1 hF hn1 PP BB T0 HN
  go_wp2_with (first
   |((with_reducible refine pI 65 9 (.tmp 17) (.tmp 17) n (some 18) (n:Int) Tryz.underlying65 gm (by omega) rfl ?hgd ?ho ?hd ?hx ?hy ?_);(case hgd|ho|hd|hx|hy=>rfl);(intro g w6 l6 B6 e6 z6;have BB6:=B4.out.below e6 (Nat.lt_of_lt_of_le B4.out.lt l6);have cb6:=BB6.cell (i:=i) HI.out;have fb6:=BB6.free i))
   |((with_reducible refine aj 65 (.tmp 19) (.tmp 18) b i (.slice (some ⟨g,0,none⟩) n n) _ _ BB6 hil (by kernel_rfl) rfl ?hgd ?ho ?hx ?hy ?_);(case hgd|ho|hx|hy=>rfl);(intro w7 B7 o7;have c7:w7.cell? ⟨b,i,none⟩=some (.slice (some ⟨g,0,none⟩) n n):=(B7.cell (i:=i) (by rw[List.getElem?_set_self hil]))))
   |fail)
  have hgb:g≠b:=by have:=B4.out.lt;omega
  have hgq:g≠q:=by have:=HP1.out.lt;omega
  have G7:Hid (ac w7 g (ig []++List.replicate (n-0) (Value.string ⟨#[]⟩)) 9):=Lib.hid (by simpa[ig]using o7.blk B6 hgb)
  have P7:Hid (aI w7 q p1 true br):=Lib.hid (o7.blk (HP1.out.below e6 (Nat.lt_of_lt_of_le HP1.out.lt l6)) (fun e=>hbq e.symm))
  have T7:Hid (ab [q,b] w w7):=Lib.hid ((T4.out.trans (ab.of_below e6 l6)).trans (o7.turned (by simp)))
  have HB7:=Lib.hid B7
  have gfr:w.heap.size≤g:=Nat.le_trans T4.out.size l6
  clear B6 B7 o7 e6 l6 z6 BB6 cb6 fb6 B4 T4 HP1 nc q1 c7
  go_loopw [24] (fun vi wr=>∃(k:Nat) (s':ByteArray) (d:List ByteArray),k≤n∧vi= .int .i64 k∧dS true (List.replicate n ⟨#[]⟩) s1 k=some (d,s'.data.toList)∧aI wr q s' true br∧ac wr g (ig d++List.replicate (n-k) (Value.string ⟨#[]⟩)) 9∧ac wr b (cs.set i (.slice (some ⟨g,0,none⟩) n n)) t∧ab [q,b] w wr) (fun vi _=>n-(intOf vi).toNat)
  case atStart=>exact⟨0,p1,[],by omega,rfl,by rw[show p1.data.toList=s1 from TP1.out];rfl,P7.out,G7.out,HB7.out,T7.out⟩
  case round=>
   clear P7 G7 HB7 T7
   obtain⟨k,s',d,hk,rfl,bE,hp',hg',hb',ht'⟩:=hrel
   have HST:=Lib.hid bE;have HPR:=Lib.hid hp';have HGR:=Lib.hid hg';have HBR:=Lib.hid hb';have HTR:=Lib.hid ht'
   have hdl:d.length=k:=(kS (fun e=>by cases e) k bE).2
   have hsz:s'.size≤1048576:=by
    have:=(kS (fun e=>by cases e) k bE).1
    have e1:s'.data.toList.length=s'.size:=rfl
    have e2:p1.data.toList.length=p1.size:=rfl
    rw[←show p1.data.toList=s1 from TP1.out]at this
    omega
   have HDL:=Lib.hid hdl
   clear bE hp' hg' hb' ht' hdl
   by_cases hlt:k<n
   ·have hlt':(k:Int)<n:=by omega
    have h00:(0:Int)≤(k:Int):=by omega
    have cb:=HBR.out.cell (i:=i) (by rw[List.getElem?_set_self hil])
    have hgl:k<(ig d++List.replicate (n-k) (Value.string ⟨#[]⟩)).length:=by simp[ig];have:=HDL.out;omega
    go_wp2_with fail
    refine(BG q s' br g k _ _ _ HPR.out HGR.out hgl hgq hsz).mono ?_
    rintro e w8 (⟨h8,rfl,rfl⟩|⟨h8,rfl,hp8,hg8,ht8⟩)
    ·have hN:dS true (List.replicate n ⟨#[]⟩) s1 (k+1)=none:=by
      simp only[dS,HST.out]
      unfold cp
      rw[if_pos rfl,if_pos (by exact h8)]
     have HNN:=Lib.hid (zH (n:=n) (by omega) hN)
     clear hN cb hgl
     go_wp2_with fail
     refine⟨rfl, ?_⟩
     rw[HF.out,HNN.out]
     exact⟨rfl,⟨_,by simp,HBR.out⟩,HTR.out⟩
    ·have hS:dS true (List.replicate n ⟨#[]⟩) s1 (k+1)=some (d++[s'.extract 0 32],(s'.extract 32 s'.size).data.toList):=by
      simp only[dS,HST.out]
      unfold cp
      rw[if_pos rfl,if_neg (by have:s'.data.toList.length=s'.size:=rfl;omega)]
      have e1:s'.extract 0 32=⟨(s'.data.toList.take 32).toArray⟩:=(((ak.self s').extract 0 32).cast (by simp)).of
      have e2:(s'.extract 32 s'.size).data.toList=s'.data.toList.drop 32:=ak.rest 32
      rw[e1,e2]
     have HS2:=Lib.hid hS;have P8:=Lib.hid hp8
     have G8:=Lib.hid (hg8.ext (BI d n k _ HDL.out hlt))
     have B8:=Lib.hid (ht8.blk HBR.out (by simp;exact⟨hbq,fun e=>hgb e.symm⟩))
     have T8:=Lib.hid (HTR.out.over ht8 gfr)
     clear hS hp8 hg8 ht8 cb hgl h8
     go_wp2_with fail
     go_roundw
     case rel=>exact⟨k+1,_,_,by omega,by go_num,HS2.out,P8.out,G8.out,B8.out,T8.out⟩
     case measure=>simp[intOf];omega
   ·obtain rfl:k=n:=by omega
    go_wp2_with fail
    first|go_end0|((try simp only[Exit.inBlock,Exit.then]);refine bodyPost_ret (results_none rfl _ _ _) rfl ?_)
    rw[HF.out,HST.out]
    refine⟨rfl,_,⟨⟨s',ak.self s',HPR.out⟩,HBR.out,HTR.out⟩, .inr ⟨g,0,k,by rw[HDL.out],HGR.out.lt, ?_,fun j x hx=> ?_⟩⟩
    ·intro hm
     rcases List.mem_cons.1 hm with e|hm
     ·exact hgq e
     rcases List.mem_cons.1 hm with e|hm
     ·exact hgb e
     ·have:=HFF.out g hm;omega
    ·rw[Nat.zero_add]
     refine HGR.out.cell ?_
     have hj:=(List.getElem?_eq_some_iff.1 hx).1
     rw[List.getElem?_append_left (by simpa[ig]using hj)]
     simp[ig,hx]
theorem u4 (F:List Nat) (q:Nat) (s:ByteArray) (rd br:Bool) (b i:Nat) (v:Value) (xs:List ByteArray) (cs:List Value) (t:TypeId) (w:World) (hp:aI w q s rd br) (hb:ac w b cs t) (hi:cs[i]?=some v) (hbq:b≠q)
  (hF:rd=true→∀x∈F,x<w.heap.size) (hr:aC (q::b::F) w v xs) (hz:rd=true→v= .slice none 0 0∧xs=[]) (hx:rd=false→xs.length≤12∧∀x∈xs,x.size≤32) (hs:s.size≤1040000):
  Calls Tryz.prog 302 #[.pointer (some ⟨q,0,none⟩), .pointer (some ⟨b,i,none⟩)] w
   (E0 F w q b rd br cs.length t (dY rd xs s.data.toList) (fun v=>cs.set i v)):=by
 cases rd with
 |true=>
  obtain⟨rfl,rfl⟩:=hz rfl
  exact GZ F q s br b i cs t w hp hb hi hbq hs (hF rfl)
 |false=>
  refine(GY q s br b i v xs cs t w hp hb hi hbq (hr.sub (by simp)) (hx rfl).1 (hx rfl).2 hs).mono ?_
  rintro e w' ⟨rfl,s',ts,hP,hT⟩
  rw[qZ]
  refine⟨rfl,v,⟨⟨s',ts,hP⟩, ?_,hT.mono (by simp)⟩,hr.turned (hT.mono (by intro x hx;simp at hx ⊢;first|exact .inl hx|exact .inl hx|(left;exact hx)))⟩
  show ac w' b (cs.set i v) t
  rw[set_self hi]
  exact hT.blk hb (by simpa using hbq)
theorem dB {rd:Bool} {x x':ByteArray} {s s':List UInt8} (h:cp rd x s=some (x',s')) (hx:rd=false→x.size≤1000):s'.length≤s.length+1000:=by
 have:=pC h
 cases rd with
 |true=>simp only[if_true]at this;omega
 |false=>have:=hx rfl;simp only[Bool.false_eq_true,if_false]at*;omega
theorem qj {rd:Bool} {x x':ByteArray} {s s':List UInt8} (h:textF rd x s=some (x',s')) (hx:rd=false→x.size≤5000):s'.length≤s.length+5004:=by
 have:=BC h
 cases rd with
 |true=>simp only[if_true]at this;omega
 |false=>have:=hx rfl;simp only[Bool.false_eq_true,if_false]at*;omega
theorem jv {x:aN} (h:cI x=true):x.hash.size≤32:=by
 simp only[cI,dp,Bool.or_eq_true,Bool.and_eq_true,decide_eq_true_eq]at h
 rcases h with h|h
 ·rw[h];decide
 ·omega
theorem aC.tF {F:List Nat} {q b:Nat} {w w':World} {v:Value} {xs:List ByteArray} (h:aC (q::b::F) w v xs) (ht:ab [q,b] w w'):aC (q::b::F) w' v xs:=
 h.turned (ht.mono (by intro x hx;simp at hx ⊢;first|exact .inl hx|(rcases hx with hx|hx;exact .inl hx;exact .inr (.inl hx))))
def iQ (F:List Nat) (w:World) (q b:Nat) (rd br:Bool) (r:Option (aa×List UInt8)) (e:Ending) (w':World):Prop:=
 match r with
 |none=>e= .panicked jI∧np w w' q b 41 73
 |some (m,s')=>e= .returned (.tuple #[])∧∃u l,ra w w' q b rd br s' (m.cells u l) 73∧aC (q::b::F) w' u m.told.up∧aC (q::b::F) w' l m.told.left
def cV (rd:Bool) (m:aa) (s:List UInt8):Option (aa×List UInt8):=
 match di rd m.told s with
 |none=>none
 |some (t,s1)=>some ({m with told:=t},s1)
theorem jX {l:List ByteArray} (h:dl l=true):∀x∈l,x.size≤32:=by
 intro x hx
 unfold dl at h
 rw[List.all_eq_true]at h
 have:=h x hx
 simp at this
 omega
theorem BJ {rd:Bool} {t t':ar} {s s':List UInt8} (h:di rd t s=some (t',s')) (hx:rd=false→dd t=true):s'.length≤s.length+22000:=by
 unfold di at h
 cases h1:ft rd t.askE t.askL s with
 |none=>rw[h1]at h;cases h
 |some p=>
  obtain⟨⟨e,l⟩,s1⟩:=p
  rw[h1]at h
  simp only at h
  have L1:=pD h1
  cases h2:cY rd t.gone s1 with
  |none=>rw[h2]at h;cases h
  |some p=>
   obtain⟨g,s2⟩:=p
   rw[h2]at h
   have L2:=iF h2
   cases g with
   |true=>simp only[Option.some.injEq,Prod.mk.injEq]at h;rw[←h.2];omega
   |false=>
    simp only at h
    have hok:rd=false→cI t.here=true∧cI t.ahead=true∧t.cipher.size≤5000∧t.up.length≤12∧t.left.length≤12∧dl t.up=true∧dl t.left=true:=by
     intro hr
     subst hr
     rw[km]at h2
     have hg:t.gone=false:=by simp only[Option.some.injEq,Prod.mk.injEq]at h2;exact h2.1
     have:=hx rfl
     unfold dd at this
     rw[hg]at this
     simp only[Bool.false_eq_true,if_false,Bool.and_eq_true,decide_eq_true_eq]at this
     obtain⟨⟨⟨⟨⟨_,h1⟩,_⟩,h2⟩,h3⟩,⟨⟨h4,h5⟩,h6⟩,h7⟩:=this
     exact⟨h2,h3,by omega,h4,h5,h6,h7⟩
    unfold eP at h
    simp only at h
    cases h3:bu rd 4 t.slot s2 with
    |none=>rw[h3]at h;cases h
    |some p=>
    obtain⟨x3,s3⟩:=p
    rw[h3]at h
    simp only at h
    have L3:=cq h3
    cases h4:textF rd t.cipher s3 with
    |none=>rw[h4]at h;cases h
    |some p=>
    obtain⟨x4,s4⟩:=p
    rw[h4]at h
    simp only at h
    have L4:=qj h4 (fun h=>(hok h).2.2.1)
    cases h5:cY rd t.found s4 with
    |none=>rw[h5]at h;cases h
    |some p=>
    obtain⟨x5,s5⟩:=p
    rw[h5]at h
    simp only at h
    have L5:=iF h5
    cases h6:bu rd 4 t.at_ s5 with
    |none=>rw[h6]at h;cases h
    |some p=>
    obtain⟨x6,s6⟩:=p
    rw[h6]at h
    simp only at h
    have L6:=cq h6
    cases h7:cU rd t.here s6 with
    |none=>rw[h7]at h;cases h
    |some p=>
    obtain⟨x7,s7⟩:=p
    rw[h7]at h
    simp only at h
    have L7:=jH h7 (fun h=>jv (hok h).1)
    cases h8:cU rd t.ahead s7 with
    |none=>rw[h8]at h;cases h
    |some p=>
    obtain⟨x8,s8⟩:=p
    rw[h8]at h
    simp only at h
    have L8:=jH h8 (fun h=>jv (hok h).2.1)
    cases h9:dY rd t.up s8 with
    |none=>rw[h9]at h;cases h
    |some p=>
    obtain⟨x9,s9⟩:=p
    rw[h9]at h
    simp only at h
    have L9:=(gk h9 (fun h=>(hok h).2.2.2.1) (fun h=>jX (hok h).2.2.2.2.2.1)).1
    cases h10:dY rd t.left s9 with
    |none=>rw[h10]at h;cases h
    |some p=>
    obtain⟨x10,s10⟩:=p
    rw[h10]at h
    simp only at h
    have L10:=(gk h10 (fun h=>(hok h).2.2.2.2.1) (fun h=>jX (hok h).2.2.2.2.2.2)).1
    simp only[Option.some.injEq,Prod.mk.injEq]at h
    rw[←h.2]
    omega
theorem Eb (F:List Nat) (q:Nat) (s:ByteArray) (rd br:Bool) (b:Nat) (m:aa) (u l:Value) (w:World) (hp:aI w q s rd br) (hb:ac w b (m.cells u l) 73) (hbq:b≠q)
  (hF:rd=true→∀x∈F,x<w.heap.size) (hu:aC (q::b::F) w u m.told.up) (hl:aC (q::b::F) w l m.told.left) (hz:rd=true→(u= .slice none 0 0∧m.told.up=[])∧(l= .slice none 0 0∧m.told.left=[])) (hx:rd=false→dd m.told=true) (hs:s.size≤1010000):
  Calls Tryz.prog 231 #[.pointer (some ⟨q,0,none⟩), .pointer (some ⟨b,17,none⟩)] w
   (iQ F w q b rd br (cV rd m s.data.toList)):=by
 obtain⟨kind,epoch,seq,nonce,tag,last,askE,askL,sld,⟨te,tl,tg,tf,ta,th,tah,tu,tlf,tsl,tc⟩,rcp⟩:=m
 have HFF:=Lib.hid hF;clear hF
 have HX:=Lib.hid hx
 have ha:rd=false→dX te tl=true:=by
  intro h
  have:=hx h
  unfold dd at this
  cases tg with
  |true=>simp only[if_true,Bool.and_eq_true]at this;exact this.1
  |false=>simp only[Bool.false_eq_true,if_false,Bool.and_eq_true]at this;exact this.1.1.1.1.1.1
 have HA:=Lib.hid ha
 have HZ1:=Lib.hid (fun h=>(hz h).1)
 have HZ2:=Lib.hid (fun h=>(hz h).2)
 have HP0:=Lib.hid hp;have B0:=Lib.hid hb;have T0:Hid (ab [q,b] w w):=Lib.hid (ab.refl _ _)
 have Qu0:=Lib.hid hu;have Ql0:=Lib.hid hl
 have HLEN:=Lib.hid (show s.data.toList.length≤s.size+0 from Nat.le_refl _)
 clear hp hb hu hl hx ha hz
 go_enter Tryz.func231,Tryz.ntmps231
 go_wp2_with fail
 refine(yL q s rd br b 17 te tl _ 73 _ HP0.out B0.out rfl rfl hbq HA.out (by omega)).mono ?_
 rintro e' w1 he
 cases h1:ft rd te tl s.data.toList with
 |none=>
  rw[h1]at he
  obtain⟨rfl,hbad⟩:=he
  have HF:=Lib.hid (show cV rd (⟨kind,epoch,seq,nonce,tag,last,askE,askL,sld,⟨te,tl,tg,tf,ta,th,tah,tu,tlf,tsl,tc⟩,rcp⟩:aa) s.data.toList=none by unfold cV di;simp only[h1])
  have HBAD:=Lib.hid (hbad.sofar T0.out)
  clear hbad h1
  go_wp2_with fail
  refine⟨rfl, ?_⟩
  rw[HF.out]
  exact⟨rfl,HBAD.out⟩
 |some p=>
  obtain⟨⟨x1,y1⟩,s1⟩:=p
  rw[h1]at he
  obtain⟨rfl,hd⟩:=he
  obtain⟨p1,tp1,hp1⟩:=hd.part
  have L1:s1.length≤s.size+6:=by have:=pD h1;have:=HLEN.out;omega
  have hs1:p1.size≤s.size+6:=by rw[tp1.size];omega
  have B1:Hid (ac w1 b ((⟨kind,epoch,seq,nonce,tag,last,askE,askL,sld,⟨x1,y1,tg,tf,ta,th,tah,tu,tlf,tsl,tc⟩,rcp⟩:aa).cells u l) 73):=Lib.hid hd.blk
  have T1:=Lib.hid (T0.out.trans hd.turned)
  have H1:=Lib.hid h1;have TP1:=Lib.hid tp1;have HP1:=Lib.hid hp1
  have Qu1:=Lib.hid (Qu0.out.tF hd.turned)
  have Ql1:=Lib.hid (Ql0.out.tF hd.turned)
  clear hd h1 tp1 hp1
  go_wp2_with fail
  refine(pF q p1 rd br b 19 tg _ 73 _ HP1.out B1.out rfl hbq (by omega)).mono ?_
  rintro e' w2 he
  rw[show p1.data.toList=s1 from TP1.out]at he
  cases h2:cY rd tg s1 with
  |none=>
   rw[h2]at he
   obtain⟨rfl,hbad⟩:=he
   have HF:=Lib.hid (show cV rd (⟨kind,epoch,seq,nonce,tag,last,askE,askL,sld,⟨te,tl,tg,tf,ta,th,tah,tu,tlf,tsl,tc⟩,rcp⟩:aa) s.data.toList=none by unfold cV di;simp only[H1.out,h2])
   have HBAD:=Lib.hid (hbad.sofar T1.out)
   clear hbad h2
   go_wp2_with fail
   refine⟨rfl, ?_⟩
   rw[HF.out]
   exact⟨rfl,HBAD.out⟩
  |some p=>
   obtain⟨x2,s2⟩:=p
   rw[h2]at he
   obtain⟨rfl,hd⟩:=he
   obtain⟨p2,tp2,hp2⟩:=hd.part
   have L2:s2.length≤s.size+7:=by have:=iF h2;have:=L1;omega
   have hs2:p2.size≤s.size+7:=by rw[tp2.size];omega
   have B2:Hid (ac w2 b ((⟨kind,epoch,seq,nonce,tag,last,askE,askL,sld,⟨x1,y1,x2,tf,ta,th,tah,tu,tlf,tsl,tc⟩,rcp⟩:aa).cells u l) 73):=Lib.hid hd.blk
   have T2:=Lib.hid (T1.out.trans hd.turned)
   have H2:=Lib.hid h2;have TP2:=Lib.hid tp2;have HP2:=Lib.hid hp2
   have Qu2:=Lib.hid (Qu1.out.tF hd.turned)
   have Ql2:=Lib.hid (Ql1.out.tF hd.turned)
   clear hd h2 tp2 hp2
   have g19:=B2.out.cell (i:=19) rfl
   cases x2 with
   |true=>
    go_wp2_with fail
    first|go_end0|((try simp only[Exit.inBlock,Exit.then]);refine bodyPost_ret (results_none rfl _ _ _) rfl ?_)
    have HF:=Lib.hid (show cV rd (⟨kind,epoch,seq,nonce,tag,last,askE,askL,sld,⟨te,tl,tg,tf,ta,th,tah,tu,tlf,tsl,tc⟩,rcp⟩:aa) s.data.toList=some ((⟨kind,epoch,seq,nonce,tag,last,askE,askL,sld,⟨x1,y1,true,tf,ta,th,tah,tu,tlf,tsl,tc⟩,rcp⟩:aa),s2) by unfold cV di;simp only[H1.out,H2.out])
    rw[HF.out]
    exact⟨rfl,u,l,⟨⟨p2,TP2.out,HP2.out⟩,B2.out,T2.out⟩,Qu2.out,Ql2.out⟩
   |false=>
    have hok:rd=false→(0≤tsl∧tsl.toNat<256^4)∧tc.size≤5000∧(0≤ta∧ta.toNat<256^4)∧cI th=true∧cI tah=true∧(tu.length≤12∧∀x∈tu,x.size≤32)∧(tlf.length≤12∧∀x∈tlf,x.size≤32):=by
     intro hr
     have h1:=H2.out
     rw[hr,km]at h1
     have hg:tg=false:=by simp only[Option.some.injEq,Prod.mk.injEq]at h1;exact h1.1
     have:=HX.out hr
     unfold dd at this
     simp only[hg,Bool.false_eq_true,if_false,Bool.and_eq_true,decide_eq_true_eq,bz]at this
     obtain⟨⟨⟨⟨⟨_,h1⟩,h8⟩,h2⟩,h3⟩,⟨⟨h4,h5⟩,h6⟩,h7⟩:=this
     exact⟨by omega,by omega,by omega,h2,h3,⟨h4,jX h6⟩,⟨h5,jX h7⟩⟩
    have c1:=fun h=>(hok h).1
    have c2:=fun h=>(hok h).2.1
    have c3:=fun h=>(hok h).2.2.1
    have c4:=fun h=>(hok h).2.2.2.1
    have c5:=fun h=>(hok h).2.2.2.2.1
    have c6:=fun h=>(hok h).2.2.2.2.2.1
    have c7:=fun h=>(hok h).2.2.2.2.2.2
    have C1:=Lib.hid c1;have C2:=Lib.hid c2;have C3:=Lib.hid c3;have C4:=Lib.hid c4;have C5:=Lib.hid c5;have C6:=Lib.hid c6;have C7:=Lib.hid c7
    clear hok c1 c2 c3 c4 c5 c6 c7
    go_wp2_with fail
    refine(bY q p2 rd br b 28 4 tsl _ 73 _ HP2.out B2.out rfl hbq (by omega) (by omega) C1.out (by omega)).mono ?_
    rintro e' w3 he
    rw[show p2.data.toList=s2 from TP2.out]at he
    cases h3:bu rd 4 tsl s2 with
    |none=>
     rw[h3]at he
     obtain⟨rfl,hbad⟩:=he
     have HF:=Lib.hid (show cV rd (⟨kind,epoch,seq,nonce,tag,last,askE,askL,sld,⟨te,tl,tg,tf,ta,th,tah,tu,tlf,tsl,tc⟩,rcp⟩:aa) s.data.toList=none by unfold cV di eP;simp only[H1.out,H2.out,h3])
     have HBAD:=Lib.hid (hbad.sofar T2.out)
     clear hbad h3
     go_wp2_with fail
     refine⟨rfl, ?_⟩
     rw[HF.out]
     exact⟨rfl,HBAD.out⟩
    |some p=>
     obtain⟨x3,s3⟩:=p
     rw[h3]at he
     obtain⟨rfl,hd⟩:=he
     obtain⟨p3,tp3,hp3⟩:=hd.part
     have L3:s3.length≤s.size+11:=by have:=cq h3;have:=L2;omega
     have hs3:p3.size≤s.size+11:=by rw[tp3.size];omega
     have B3:Hid (ac w3 b ((⟨kind,epoch,seq,nonce,tag,last,askE,askL,sld,⟨x1,y1,false,tf,ta,th,tah,tu,tlf,x3,tc⟩,rcp⟩:aa).cells u l) 73):=Lib.hid hd.blk
     have T3:=Lib.hid (T2.out.trans hd.turned)
     have H3:=Lib.hid h3;have TP3:=Lib.hid tp3;have HP3:=Lib.hid hp3
     have Qu3:=Lib.hid (Qu2.out.tF hd.turned)
     have Ql3:=Lib.hid (Ql2.out.tF hd.turned)
     clear hd h3 tp3 hp3
     go_wp2_with fail
     refine(D9 q p3 rd br b 29 tc _ 73 _ HP3.out B3.out rfl hbq (by omega) (fun h=>by have:=C2.out h;omega)).mono ?_
     rintro e' w4 he
     rw[show p3.data.toList=s3 from TP3.out]at he
     cases h4:textF rd tc s3 with
     |none=>
      rw[h4]at he
      obtain⟨rfl,hbad⟩:=he
      have HF:=Lib.hid (show cV rd (⟨kind,epoch,seq,nonce,tag,last,askE,askL,sld,⟨te,tl,tg,tf,ta,th,tah,tu,tlf,tsl,tc⟩,rcp⟩:aa) s.data.toList=none by unfold cV di eP;simp only[H1.out,H2.out,H3.out,h4])
      have HBAD:=Lib.hid (hbad.sofar T3.out)
      clear hbad h4
      go_wp2_with fail
      refine⟨rfl, ?_⟩
      rw[HF.out]
      exact⟨rfl,HBAD.out⟩
     |some p=>
      obtain⟨x4,s4⟩:=p
      rw[h4]at he
      obtain⟨rfl,hd⟩:=he
      obtain⟨p4,tp4,hp4⟩:=hd.part
      have L4:s4.length≤s.size+5015:=by have:=qj h4 C2.out;have:=L3;omega
      have hs4:p4.size≤s.size+5015:=by rw[tp4.size];omega
      have B4:Hid (ac w4 b ((⟨kind,epoch,seq,nonce,tag,last,askE,askL,sld,⟨x1,y1,false,tf,ta,th,tah,tu,tlf,x3,x4⟩,rcp⟩:aa).cells u l) 73):=Lib.hid hd.blk
      have T4:=Lib.hid (T3.out.trans hd.turned)
      have H4:=Lib.hid h4;have TP4:=Lib.hid tp4;have HP4:=Lib.hid hp4
      have Qu4:=Lib.hid (Qu3.out.tF hd.turned)
      have Ql4:=Lib.hid (Ql3.out.tF hd.turned)
      clear hd h4 tp4 hp4
      go_wp2_with fail
      refine(pF q p4 rd br b 20 tf _ 73 _ HP4.out B4.out rfl hbq (by omega)).mono ?_
      rintro e' w5 he
      rw[show p4.data.toList=s4 from TP4.out]at he
      cases h5:cY rd tf s4 with
      |none=>
       rw[h5]at he
       obtain⟨rfl,hbad⟩:=he
       have HF:=Lib.hid (show cV rd (⟨kind,epoch,seq,nonce,tag,last,askE,askL,sld,⟨te,tl,tg,tf,ta,th,tah,tu,tlf,tsl,tc⟩,rcp⟩:aa) s.data.toList=none by unfold cV di eP;simp only[H1.out,H2.out,H3.out,H4.out,h5])
       have HBAD:=Lib.hid (hbad.sofar T4.out)
       clear hbad h5
       go_wp2_with fail
       refine⟨rfl, ?_⟩
       rw[HF.out]
       exact⟨rfl,HBAD.out⟩
      |some p=>
       obtain⟨x5,s5⟩:=p
       rw[h5]at he
       obtain⟨rfl,hd⟩:=he
       obtain⟨p5,tp5,hp5⟩:=hd.part
       have L5:s5.length≤s.size+5016:=by have:=iF h5;have:=L4;omega
       have hs5:p5.size≤s.size+5016:=by rw[tp5.size];omega
       have B5:Hid (ac w5 b ((⟨kind,epoch,seq,nonce,tag,last,askE,askL,sld,⟨x1,y1,false,x5,ta,th,tah,tu,tlf,x3,x4⟩,rcp⟩:aa).cells u l) 73):=Lib.hid hd.blk
       have T5:=Lib.hid (T4.out.trans hd.turned)
       have H5:=Lib.hid h5;have TP5:=Lib.hid tp5;have HP5:=Lib.hid hp5
       have Qu5:=Lib.hid (Qu4.out.tF hd.turned)
       have Ql5:=Lib.hid (Ql4.out.tF hd.turned)
       clear hd h5 tp5 hp5
       go_wp2_with fail
       refine(bY q p5 rd br b 21 4 ta _ 73 _ HP5.out B5.out rfl hbq (by omega) (by omega) C3.out (by omega)).mono ?_
       rintro e' w6 he
       rw[show p5.data.toList=s5 from TP5.out]at he
       cases h6:bu rd 4 ta s5 with
       |none=>
        rw[h6]at he
        obtain⟨rfl,hbad⟩:=he
        have HF:=Lib.hid (show cV rd (⟨kind,epoch,seq,nonce,tag,last,askE,askL,sld,⟨te,tl,tg,tf,ta,th,tah,tu,tlf,tsl,tc⟩,rcp⟩:aa) s.data.toList=none by unfold cV di eP;simp only[H1.out,H2.out,H3.out,H4.out,H5.out,h6])
        have HBAD:=Lib.hid (hbad.sofar T5.out)
        clear hbad h6
        go_wp2_with fail
        refine⟨rfl, ?_⟩
        rw[HF.out]
        exact⟨rfl,HBAD.out⟩
       |some p=>
        obtain⟨x6,s6⟩:=p
        rw[h6]at he
        obtain⟨rfl,hd⟩:=he
        obtain⟨p6,tp6,hp6⟩:=hd.part
        have L6:s6.length≤s.size+5020:=by have:=cq h6;have:=L5;omega
        have hs6:p6.size≤s.size+5020:=by rw[tp6.size];omega
        have B6:Hid (ac w6 b ((⟨kind,epoch,seq,nonce,tag,last,askE,askL,sld,⟨x1,y1,false,x5,x6,th,tah,tu,tlf,x3,x4⟩,rcp⟩:aa).cells u l) 73):=Lib.hid hd.blk
        have T6:=Lib.hid (T5.out.trans hd.turned)
        have H6:=Lib.hid h6;have TP6:=Lib.hid tp6;have HP6:=Lib.hid hp6
        have Qu6:=Lib.hid (Qu5.out.tF hd.turned)
        have Ql6:=Lib.hid (Ql5.out.tF hd.turned)
        clear hd h6 tp6 hp6
        go_wp2_with fail
        refine(uW q p6 rd br b 22 th _ 73 _ HP6.out B6.out rfl rfl hbq C4.out (by omega)).mono ?_
        rintro e' w7 he
        rw[show p6.data.toList=s6 from TP6.out]at he
        cases h7:cU rd th s6 with
        |none=>
         rw[h7]at he
         obtain⟨rfl,hbad⟩:=he
         have HF:=Lib.hid (show cV rd (⟨kind,epoch,seq,nonce,tag,last,askE,askL,sld,⟨te,tl,tg,tf,ta,th,tah,tu,tlf,tsl,tc⟩,rcp⟩:aa) s.data.toList=none by unfold cV di eP;simp only[H1.out,H2.out,H3.out,H4.out,H5.out,H6.out,h7])
         have HBAD:=Lib.hid (hbad.sofar T6.out)
         clear hbad h7
         go_wp2_with fail
         refine⟨rfl, ?_⟩
         rw[HF.out]
         exact⟨rfl,HBAD.out⟩
        |some p=>
         obtain⟨x7,s7⟩:=p
         rw[h7]at he
         obtain⟨rfl,hd⟩:=he
         obtain⟨p7,tp7,hp7⟩:=hd.part
         have L7:s7.length≤s.size+5055:=by have:=jH h7 (fun h=>jv (C4.out h));have:=L6;omega
         have hs7:p7.size≤s.size+5055:=by rw[tp7.size];omega
         have B7:Hid (ac w7 b ((⟨kind,epoch,seq,nonce,tag,last,askE,askL,sld,⟨x1,y1,false,x5,x6,x7,tah,tu,tlf,x3,x4⟩,rcp⟩:aa).cells u l) 73):=Lib.hid hd.blk
         have T7:=Lib.hid (T6.out.trans hd.turned)
         have H7:=Lib.hid h7;have TP7:=Lib.hid tp7;have HP7:=Lib.hid hp7
         have Qu7:=Lib.hid (Qu6.out.tF hd.turned)
         have Ql7:=Lib.hid (Ql6.out.tF hd.turned)
         clear hd h7 tp7 hp7
         go_wp2_with fail
         refine(uW q p7 rd br b 24 tah _ 73 _ HP7.out B7.out rfl rfl hbq C5.out (by omega)).mono ?_
         rintro e' w8 he
         rw[show p7.data.toList=s7 from TP7.out]at he
         cases h8:cU rd tah s7 with
         |none=>
          rw[h8]at he
          obtain⟨rfl,hbad⟩:=he
          have HF:=Lib.hid (show cV rd (⟨kind,epoch,seq,nonce,tag,last,askE,askL,sld,⟨te,tl,tg,tf,ta,th,tah,tu,tlf,tsl,tc⟩,rcp⟩:aa) s.data.toList=none by unfold cV di eP;simp only[H1.out,H2.out,H3.out,H4.out,H5.out,H6.out,H7.out,h8])
          have HBAD:=Lib.hid (hbad.sofar T7.out)
          clear hbad h8
          go_wp2_with fail
          refine⟨rfl, ?_⟩
          rw[HF.out]
          exact⟨rfl,HBAD.out⟩
         |some p=>
          obtain⟨x8,s8⟩:=p
          rw[h8]at he
          obtain⟨rfl,hd⟩:=he
          obtain⟨p8,tp8,hp8⟩:=hd.part
          have L8:s8.length≤s.size+5090:=by have:=jH h8 (fun h=>jv (C5.out h));have:=L7;omega
          have hs8:p8.size≤s.size+5090:=by rw[tp8.size];omega
          have B8:Hid (ac w8 b ((⟨kind,epoch,seq,nonce,tag,last,askE,askL,sld,⟨x1,y1,false,x5,x6,x7,x8,tu,tlf,x3,x4⟩,rcp⟩:aa).cells u l) 73):=Lib.hid hd.blk
          have T8:=Lib.hid (T7.out.trans hd.turned)
          have H8:=Lib.hid h8;have TP8:=Lib.hid tp8;have HP8:=Lib.hid hp8
          have Qu8:=Lib.hid (Qu7.out.tF hd.turned)
          have Ql8:=Lib.hid (Ql7.out.tF hd.turned)
          clear hd h8 tp8 hp8
          go_wp2_with fail
          refine(u4 F q p8 rd br b 26 u tu _ 73 _ HP8.out B8.out rfl hbq (fun e x hx=>Nat.lt_of_lt_of_le (HFF.out e x hx) T8.out.size) Qu8.out HZ1.out C6.out (by omega)).mono ?_
          rintro e' w9 he
          rw[show p8.data.toList=s8 from TP8.out]at he
          cases h9:dY rd tu s8 with
          |none=>
           rw[h9]at he
           obtain⟨rfl,hbad⟩:=he
           have HF:=Lib.hid (show cV rd (⟨kind,epoch,seq,nonce,tag,last,askE,askL,sld,⟨te,tl,tg,tf,ta,th,tah,tu,tlf,tsl,tc⟩,rcp⟩:aa) s.data.toList=none by unfold cV di eP;simp only[H1.out,H2.out,H3.out,H4.out,H5.out,H6.out,H7.out,H8.out,h9])
           have HBAD:=Lib.hid (hbad.sofar T8.out)
           clear hbad h9
           go_wp2_with fail
           refine⟨rfl, ?_⟩
           rw[HF.out]
           exact⟨rfl,HBAD.out⟩
          |some p=>
           obtain⟨x9,s9⟩:=p
           rw[h9]at he
           obtain⟨rfl,v9,hd,hpi⟩:=he
           obtain⟨p9,tp9,hp9⟩:=hd.part
           have L9:s9.length≤s.size+13290:=by have:=(gk h9 (fun h=>(C6.out h).1) (fun h=>(C6.out h).2)).1;have:=L8;omega
           have hs9:p9.size≤s.size+13290:=by rw[tp9.size];omega
           have B9:Hid (ac w9 b ((⟨kind,epoch,seq,nonce,tag,last,askE,askL,sld,⟨x1,y1,false,x5,x6,x7,x8,x9,tlf,x3,x4⟩,rcp⟩:aa).cells v9 l) 73):=Lib.hid hd.blk
           have T9:=Lib.hid (T8.out.trans hd.turned)
           have H9:=Lib.hid h9;have TP9:=Lib.hid tp9;have HP9:=Lib.hid hp9
           have Qu9:=Lib.hid hpi
           have Ql9:=Lib.hid (Ql8.out.tF hd.turned)
           clear hpi
           clear hd h9 tp9 hp9
           go_wp2_with fail
           refine(u4 F q p9 rd br b 27 l tlf _ 73 _ HP9.out B9.out rfl hbq (fun e x hx=>Nat.lt_of_lt_of_le (HFF.out e x hx) T9.out.size) Ql9.out HZ2.out C7.out (by omega)).mono ?_
           rintro e' w10 he
           rw[show p9.data.toList=s9 from TP9.out]at he
           cases h10:dY rd tlf s9 with
           |none=>
            rw[h10]at he
            obtain⟨rfl,hbad⟩:=he
            have HF:=Lib.hid (show cV rd (⟨kind,epoch,seq,nonce,tag,last,askE,askL,sld,⟨te,tl,tg,tf,ta,th,tah,tu,tlf,tsl,tc⟩,rcp⟩:aa) s.data.toList=none by unfold cV di eP;simp only[H1.out,H2.out,H3.out,H4.out,H5.out,H6.out,H7.out,H8.out,H9.out,h10])
            have HBAD:=Lib.hid (hbad.sofar T9.out)
            clear hbad h10
            go_wp2_with fail
            refine⟨rfl, ?_⟩
            rw[HF.out]
            exact⟨rfl,HBAD.out⟩
           |some p=>
            obtain⟨x10,s10⟩:=p
            rw[h10]at he
            obtain⟨rfl,v10,hd,hpi⟩:=he
            obtain⟨p10,tp10,hp10⟩:=hd.part
            have L10:s10.length≤s.size+21490:=by have:=(gk h10 (fun h=>(C7.out h).1) (fun h=>(C7.out h).2)).1;have:=L9;omega
            have hs10:p10.size≤s.size+21490:=by rw[tp10.size];omega
            have B10:Hid (ac w10 b ((⟨kind,epoch,seq,nonce,tag,last,askE,askL,sld,⟨x1,y1,false,x5,x6,x7,x8,x9,x10,x3,x4⟩,rcp⟩:aa).cells v9 v10) 73):=Lib.hid hd.blk
            have T10:=Lib.hid (T9.out.trans hd.turned)
            have H10:=Lib.hid h10;have TP10:=Lib.hid tp10;have HP10:=Lib.hid hp10
            have Ql10:=Lib.hid hpi
            have Qu10:=Lib.hid (Qu9.out.tF hd.turned)
            clear hpi
            clear hd h10 tp10 hp10
            go_wp2_with fail
            first|go_end0|((try simp only[Exit.inBlock,Exit.then]);refine bodyPost_ret (results_none rfl _ _ _) rfl ?_)
            have HF:=Lib.hid (show cV rd (⟨kind,epoch,seq,nonce,tag,last,askE,askL,sld,⟨te,tl,tg,tf,ta,th,tah,tu,tlf,tsl,tc⟩,rcp⟩:aa) s.data.toList=some ((⟨kind,epoch,seq,nonce,tag,last,askE,askL,sld,⟨x1,y1,false,x5,x6,x7,x8,x9,x10,x3,x4⟩,rcp⟩:aa),s10) by unfold cV di eP;simp only[H1.out,H2.out,H3.out,H4.out,H5.out,H6.out,H7.out,H8.out,H9.out,H10.out])
            rw[HF.out]
            exact⟨rfl,v9,v10,⟨⟨p10,TP10.out,HP10.out⟩,B10.out,T10.out⟩,Qu10.out,Ql10.out⟩
end Go.Proofs.YtngiibgdgenidaaGreat
