/- Open (chapter 25), of a disk that is right. A volume that is none, and its looks; a ring's key (chapter 26). A volume is mounted of a disk whose journal has no block yet (chapter 26). Versions (chapter 14): how they stand. No program in sight. -/
import Derived.Test.YtgimkmclgjfddaaGreatQ12
import Derived.Test.YtgimkmclgjfddaaGreatQ13
import Derived.Test.YtgimkmclgjfddaaGreatQ9
import Derived.Test.YtgimkmclgjfddaaGreatQ7
import Derived.Test.YtgimkmclgjfddaaGreatQ5
import Derived.Deep.RegionHeld3
import Derived.Deep.RegionWith
set_option linter.unusedSimpArgs false
set_option linter.unusedVariables false
set_option maxRecDepth 100000
set_option maxHeartbeats 4000000
namespace Go.Proofs.YtgimkmclgjfddaaGreat
open Go Go.RowKit
theorem uk {fn:Func} {t u v x:Tmp} (h:fn.results=#[.tmp t, .tmp u, .tmp v, .tmp x]) (tmps:Array Value) (P:Program) (w:World):
  (results fn tmps).run P w= .ok (.tuple #[tmps.getD t undef,tmps.getD u undef,tmps.getD v undef,tmps.getD x undef]) w:=by
 simp[results,h,Sem.run_bind]
def tailV (d:ao) (k:Nat):List ByteArray:=(List.range k).map fun(i:Nat)=>d.shown (4+(i:Int))
theorem yQ (d:ao) (k:Nat):tailV d (k+1)=tailV d k++[d.shown (4+(k:Int))]:=by simp[tailV,List.range_succ]
theorem AW (db n t ep:Nat) (gen clock lbas first:Int) (key:ByteArray) (d:ao) (w:World) (h:aD w db d) (hso:fS (⟨gen,(t:Int),(ep:Int),clock,⟨(n:Int),lbas,first⟩⟩:aE))
  (hd:d.down=false) (hc:d.cs.length≤4096) (hb:d.bs.length≤1024) (hn:d.bs.length=n) (hsh:∀i,4+t≤i→i<n→d.shown i=(⟨(List.replicate 4096 0).toArray⟩:ByteArray)) (bS:(if ep % 2=0 then d.shown 3 else d.shown 2)=(⟨(List.replicate 4096 0).toArray⟩:ByteArray))
  (hF:∀wx,aD wx db d→Calls Tryz.prog 314 #[.pointer (some ⟨db,0,none⟩)] wx fun e w'=>e= .returned (.tuple #[(⟨gen,(t:Int),(ep:Int),clock,⟨(n:Int),lbas,first⟩⟩:aE).v, .string key, .int .i64 0])∧Below wx.heap.size wx w'):
  Calls Tryz.prog 222 #[.pointer (some ⟨db,0,none⟩)] w fun e w'=>(∃jb sb lv,e= .returned (.tuple #[.pointer (some ⟨jb,0,none⟩),lv, .string key, .int .i64 0])∧ab w' jb (bE (.pointer (some ⟨sb,0,none⟩)) db (⟨gen,(t:Int),(ep:Int),clock,⟨(n:Int),lbas,first⟩⟩:aE)) 216∧ab w' sb (cn ⟨(n:Int),lbas,first⟩ (t:Int)) 320∧w'.ownsRow w.heap.size 9 1 lv t ((tailV d t).map .string)∧w.heap.size≤sb∧sb<jb)∧Below w.heap.size w w':=by
 obtain⟨i0,hi,hz0,hz1,hz2⟩:=info_parts pK
 have hn0:(d.bs.length:Int)=(n:Int):=by omega
 have hnz:decide ((n:Int)=0)=false:=by have:=hso.geo.b0;simp only at this;exact decide_eq_false (by omega)
 have hnz2:((n:Int)==0)=false:=by have:=hso.geo.b0;simp only at this;exact beq_eq_false_iff_ne.2 (by omega)
 obtain⟨s,Hs⟩:∃s,Hid (s=(⟨gen,(t:Int),(ep:Int),clock,⟨(n:Int),lbas,first⟩⟩:aE)):=⟨_,rfl⟩
 have HST0:=Lib.hid (show s.tail=(t:Int) by rw[Hs.out])
 have HSG:=Lib.hid (show s.geo=(⟨(n:Int),lbas,first⟩:ay) by rw[Hs.out])
 rw[←Hs.out]at hF
 have HN0:=Lib.hid hn0
 have HHw:=Lib.hid h
 have HSO:=Lib.hid hso
 have HD:=Lib.hid hd
 have HC:=Lib.hid hc
 have HB:=Lib.hid hb
 have HN:=Lib.hid hn
 have HSH:=Lib.hid hsh
 have HST:=Lib.hid bS
 have HFW:=Lib.hid hF
 have HT:=Lib.hid (show 4+t≤n from by have:=hso.t1;simp only at this;omega)
 have HN1:=Lib.hid (show n≤1024 from by omega)
 clear h hso hd hc hb hn hsh bS hF hn0
 go_enter Tryz.func222,Tryz.ntmps222
 go_wp2_with fail
 refine(mN db d _ HHw.out).mono ?_
 rintro e w' ⟨rfl,rfl⟩
 rw[HN0.out]
 go_wp2_with fail
 refine(qG db d _ HHw.out).mono ?_
 rintro e w' ⟨rfl,rfl⟩
 rw[HD.out]
 go_wp2_with fail
 refine(HFW.out _ HHw.out).mono ?_
 rintro e w1 ⟨rfl,hb1⟩
 have HBE1:=Lib.hid hb1
 have HD1:=Lib.hid (HHw.out.below hb1)
 clear hb1
 go_wp2_with (first
  |((with_reducible refine ai 130 _ dT (some 6) ?hgd ?ho ?hd ?_);(case hgd|ho|hd=>rfl);(intro b6 w2 l2 B2 e2 z2))
  |((with_reducible refine af 130 (.tmp 6) (.tmp 27) b6 aE.zero.cells s.cells 130 B2 rfl aY (dH _) ?hgd ?ho ?hx ?hy ?_);(case hgd|ho|hx|hy=>rfl);(intro w3 B3 o3);(have q1:=B3.cell (i:=1) rfl))
  |((with_reducible refine ae 69 (.tmp 34) b6 4 s.geo.cells _ (some 35) (lG B3) Tryz.underlying69 rfl bu ?hg ?ho ?hds ?hx ?_);(case ho|hg|hds|hx=>rfl))
  |fail)
 refine(sj s.geo s.tail _ (by rw[HSG.out];exact HSO.out.geo) (by rw[HST0.out];omega) (by have:=HT.out;rw[HST0.out,HSG.out];show(t:Int)≤(n:Int)-4;omega)).mono ?_
 rintro e w4 ⟨⟨sb,rfl,Bs,ls⟩,hb4⟩
 have hb3:Below w1.heap.size w1 w3:=o3.below (e2.mono l2) l2
 have hw1:=HBE1.out.size
 have hb34:=hb3.trans (hb4.mono hb3.size)
 have HLS:=Lib.hid (show w.heap.size≤sb from Nat.le_trans hw1 (Nat.le_trans hb3.size ls))
 have HL6:=Lib.hid (show w.heap.size≤b6 from Nat.le_trans hw1 l2)
 have HB6:=Lib.hid (B3.below hb4 B3.lt)
 have HBS:=Lib.hid Bs
 have HD4:=Lib.hid (HD1.out.below hb34)
 have HBE4:=Lib.hid (HBE1.out.trans (hb34.mono hw1))
 clear q1 B2 B3 o3 e2 z2 l2 Bs ls hb4 hb3 hb34 hw1
 go_wp2_with (first
  |((with_reducible refine ar 130 (.tmp 6) b6 s.cells 130 _ HB6.out Tryz.underlying130 rfl aY ?hgd ?ho ?hx ?_);(case hgd|ho|hx=>rfl))
  |((with_reducible refine aw 216 ?parts (bE (.pointer (some ⟨sb,0,none⟩)) db s) ?hg ?ho ?hf ?_);(case hg|ho=>rfl);(case hf=>(obtain⟨gen,tail,epoch,clock,⟨blocks,lbas,first⟩⟩:=s;kernel_rfl)))
  |((with_reducible refine ag 216 (.tmp 44) (bE (.pointer (some ⟨sb,0,none⟩)) db s) (some 45) ?hgd ?ho ?hd ?hx ?_);(case hgd|ho|hd|hx=>rfl);(intro jb w5 l5 B5 e5 z5))
  |fail)
 have hb5:Below w4.heap.size w4 w5:=e5.mono l5
 have hw4:=HBE4.out.size
 have HSJ:=Lib.hid (show sb<jb from Nat.lt_of_lt_of_le HBS.out.lt l5)
 have HJ5:=Lib.hid B5
 have HS5:=Lib.hid (HBS.out.below hb5 HBS.out.lt)
 have HB65:=Lib.hid (HB6.out.below hb5 HB6.out.lt)
 have HD5:=Lib.hid (HD4.out.below hb5)
 have HBE5:=Lib.hid (HBE4.out.trans (hb5.mono hw4))
 clear B5 e5 z5 l5 hb5 hw4
 refine(wL jb db n t ep (.pointer (some ⟨sb,0,none⟩)) gen clock lbas first d _ HD5.out (by rw[←Hs.out];exact HJ5.out) HSO.out.geo HD.out HC.out HB.out HN.out (by have:=HSO.out.e1;simp only at this;omega) HT.out HSH.out HST.out).mono ?_
 rintro e w6 ⟨rfl,hb6⟩
 have hw5:=HBE5.out.size
 have HJ6:=Lib.hid (HJ5.out.below hb6 HJ5.out.lt)
 have HS6:=Lib.hid (HS5.out.below hb6 HS5.out.lt)
 have HB66:=Lib.hid (HB65.out.below hb6 HB65.out.lt)
 have HD6:=Lib.hid (HD5.out.below hb6)
 have HBE6:=Lib.hid (HBE5.out.trans (hb6.mono hw5))
 have q1:w6.cell? ⟨b6,1,none⟩=some (.int .i64 (t:Int)):=by rw[←HST0.out];exact HB66.out.cell (i:=1) rfl
 clear hb6 hw5
 go_wp2_with fail
 clear q1
 go_loopw [13,53] (fun lv v wr=>∃k:Nat,k≤t∧v= .int .i64 k∧wr.ownsRow w6.heap.size 9 1 lv k ((tailV d k).map .string)∧Below w6.heap.size w6 wr) (fun _ v _=>t-(intOf v).toNat)
 case atStart=>exact⟨0,Nat.zero_le _,rfl,World.ownsRow_nil _ _ _ _,Below.refl _ _⟩
 case round=>
  obtain⟨k,hk,rfl,hown,hbel⟩:=hrel
  obtain⟨lp,lc,rfl⟩:=aT hown
  have HOWN:=Lib.hid hown
  have HBEL:=Lib.hid hbel
  have HJr:=Lib.hid (HJ6.out.below hbel HJ6.out.lt)
  have HDr:=Lib.hid (HD6.out.below hbel)
  clear hown hbel
  by_cases hlt:k<t
  ·have hlt':(k:Int)<(t:Int):=by omega
   have hk9:k≤1024:=by have:=HN1.out;have:=HT.out;omega
   go_wp2_with fail
   refine(ma jb db (.pointer (some ⟨sb,0,none⟩)) (⟨gen,(t:Int),(ep:Int),clock,⟨(n:Int),lbas,first⟩⟩:aE) (k:Int) _ (by rw[←Hs.out];exact HJr.out) HSO.out.geo (by omega) (by have:=HT.out;show(k:Int)<(n:Int)-4;omega)).mono ?_
   rintro e wa ⟨rfl,hba⟩
   have HDa:=Lib.hid (HDr.out.below hba)
   have HOWNa:=Lib.hid (own_below hba HOWN.out)
   have HBELa:=Lib.hid (HBEL.out.trans (hba.mono HBEL.out.size))
   clear hba
   obtain⟨m,hm⟩:∃m,4+k=m:=⟨_,rfl⟩
   have e4:(4+(k:Int))=(m:Int):=by omega
   rw[e4]
   have HM:=Lib.hid hm
   have HE4:=Lib.hid e4
   clear hm e4
   go_wp2_with fail
   refine(eV db d _ HDa.out HD.out m (by have:=HT.out;have:=HN.out;have:=HM.out;omega) HC.out HB.out).mono ?_
   rintro e w' ⟨rfl,rfl⟩
   obtain⟨sh,hsh⟩:∃s,d.shown (m:Int)=s:=⟨_,rfl⟩
   rw[hsh]
   have HSHk:=Lib.hid hsh
   clear hsh
   have own1:=HOWNa.out
   go_wp2_with (first
    |((with_reducible refine aS 30 9 1 ?parts66 [.string sh] (.string ⟨#[]⟩) 1 16 (some 66) Tryz.underlying30 pK (by omega) (by omega) ?hgd ?ho ?hd ?hf ?_);(case hgd|ho|hd=>rfl);(case hf=>kernel_rfl);(intro g2 w7 l7 B7 e7 z7);(have own2:=own_below (e7.mono l7) own1))
    |(at_builtin;refine fF _ _ 30 rfl rfl i0 (.string ⟨#[]⟩) 16 Tryz.underlying30 hi hz0 hz1 hz2 rfl (by decide) rfl own2 ⟨g2,0,none⟩ 1 1 [.string sh] rfl rfl (cd B7) (by intro v hv;simp at hv;subst hv;rfl) (by unfold maxLen;omega) (by omega) (by have:=HBELa.out.size;have:=z7;omega) ?_;intro v' w8 own3 grow3 near3)
    |fail)
   have hbz:Below w6.heap.size w6 w7:=HBELa.out.trans ((e7.mono l7).mono HBELa.out.size)
   have HBEz:=Lib.hid (hbz.grown grow3 hbz.size (fun j hj=>(own2.lt j hj).1))
   have HOWNz:=Lib.hid own3
   clear hbz grow3 near3 own3 own2 own1 B7 e7 z7 l7
   go_roundw
   case rel=>exact⟨k+1,by omega,by go_num,by rw[yQ,List.map_append];rw[show d.shown (4+(k:Int))=sh by rw[HE4.out];exact HSHk.out];exact HOWNz.out,HBEz.out⟩
   case measure=>simp[intOf];omega
  ·obtain rfl:k=t:=by omega
   go_wp2_with fail
   (try simp only[Exit.inBlock,Exit.then]);refine bodyPost_ret (uk rfl _ _ _) rfl ⟨⟨jb,sb,_,rfl,by rw[←Hs.out];exact HJr.out,by rw[←HSG.out,←HST0.out];exact HS6.out.below HBEL.out HS6.out.lt,own_base HOWN.out HBE6.out.size,HLS.out,HSJ.out⟩,HBE6.out.trans (HBEL.out.mono HBE6.out.size)⟩
def nR:List Value:=[.pointer none, .string ⟨#[]⟩, .string ⟨#[]⟩, .pointer none, .slice none 0 0, .pointer none, .pointer none, .pointer none]
def fa (w:World) (v:Value):Prop:=v= .pointer none∨∃vb,v= .pointer (some ⟨vb,0,none⟩)∧ab w vb nR 50
theorem fa.below {w w':World} {v:Value} (h:fa w v) (hb:Below w.heap.size w w'):fa w' v:=
 h.imp id fun⟨vb,h1,h2⟩=>⟨vb,h1,h2.below hb h2.lt⟩
theorem oC (v:Value) (w:World) (h:fa w v):
  Calls Tryz.prog 36 #[v] w fun e w'=>e= .returned (.bool false)∧w=w':=by
 rcases h with rfl|⟨vb,rfl,hb⟩
 ·go_enter Tryz.func36,Tryz.ntmps36
  go_wp2_with fail
  go_ret
  exact⟨rfl,rfl⟩
 ·have c0:=hb.cell (i:=0) rfl
  go_enter Tryz.func36,Tryz.ntmps36
  go_wp2_with fail
  go_ret
  exact⟨rfl,rfl⟩
theorem sx (v:Value) (w:World) (h:fa w v):
  Calls Tryz.prog 15 #[v] w fun e w'=>e= .returned (.tuple #[.int .i64 0, .string ⟨#[]⟩, .string ⟨#[]⟩])∧w=w':=by
 go_enter Tryz.func15,Tryz.ntmps15
 go_wp2_with fail
 refine(oC v _ h).mono ?_
 rintro e w' ⟨rfl,rfl⟩
 go_wp2_with fail
 (try simp only[Exit.inBlock,Exit.then]);refine bodyPost_ret (results_tmp3 rfl _ _ _) rfl ⟨rfl,rfl⟩
theorem ul (v:Value) (w:World) (h:fa w v):
  Calls Tryz.prog 27 #[v] w fun e w'=>e= .returned (.slice none 0 0)∧w=w':=by
 go_enter Tryz.func27,Tryz.ntmps27
 go_wp2_with fail
 refine(oC v _ h).mono ?_
 rintro e w' ⟨rfl,rfl⟩
 go_wp2_with fail
 go_ret
 exact⟨rfl,rfl⟩
theorem mc {w:World} {jb db:Nat} {sv:Value} {s:aE} {t:TypeId} (h:ab w jb (bE sv db s) t):w.rangeAt jb 2 s.cells:=by
 intro j v hv
 match j,hv with
 |0,hv=>simp[aE.cells]at hv;subst hv;exact h.cell (i:=2) rfl
 |1,hv=>simp[aE.cells]at hv;subst hv;exact h.cell (i:=3) rfl
 |2,hv=>simp[aE.cells]at hv;subst hv;exact h.cell (i:=4) rfl
 |3,hv=>simp[aE.cells]at hv;subst hv;exact h.cell (i:=5) rfl
 |4,hv=>simp[aE.cells]at hv;subst hv;exact h.cell (i:=6) rfl
 |5,hv=>simp[aE.cells]at hv;subst hv;exact h.cell (i:=7) rfl
 |6,hv=>simp[aE.cells]at hv;subst hv;exact h.cell (i:=8) rfl
 |j+7,hv=>simp[aE.cells]at hv
theorem lq (jb db:Nat) (sv:Value) (gen tail epoch clock blocks lbas first:Int) (w:World) (h:ab w jb (bE sv db ⟨gen,tail,epoch,clock,⟨blocks,lbas,first⟩⟩) 216):
  Calls Tryz.prog 225 #[.pointer (some ⟨jb,0,none⟩)] w fun e w'=>e= .returned (.agg #[.int .i64 gen, .int .i64 tail, .int .i64 epoch, .int .i64 clock, .int .i64 blocks, .int .i64 lbas, .int .i64 first])∧Below w.heap.size w w':=by
 go_enter Tryz.func225,Tryz.ntmps225
 go_wp2_with (first
  |((with_reducible refine ai 130 _ dT (some 2) ?hgd ?ho ?hd ?_);(case hgd|ho|hd=>rfl);(intro b2 w2 l2 B2 e2 z2);(have H2:=mc (h.below (e2.mono l2) h.lt)))
  |((with_reducible refine ae 130 (.tmp 8) jb 2 (aE.cells ⟨gen,tail,epoch,clock,⟨blocks,lbas,first⟩⟩) _ (some 9) H2 Tryz.underlying130 rfl aY ?hg ?ho ?hds ?hx ?_);(case ho|hg|hds|hx=>rfl))
  |((with_reducible refine af 130 (.tmp 2) (.tmp 9) b2 aE.zero.cells (aE.cells ⟨gen,tail,epoch,clock,⟨blocks,lbas,first⟩⟩) 130 B2 rfl aY (dH _) ?hgd ?ho ?hx ?hy ?_);(case hgd|ho|hx|hy=>rfl);(intro w3 B3 o3))
  |fail)
 (try simp only[Exit.inBlock,Exit.then]);refine bodyPost_ret (gG rfl _ _ B3.range rfl Tryz.underlying130 rfl aY) rfl ⟨rfl,o3.below (e2.mono l2) l2⟩
theorem yR (fb vb m:Nat) (cv:Value) (p:Option Addr) (c:Nat) (w:World) (h:ab w fb [.pointer (some ⟨vb,0,none⟩),cv, .map (some m), .slice p 0 c] 299):
  Calls Tryz.prog 227 #[.pointer (some ⟨fb,0,none⟩)] w fun e w'=>e= .returned (.int .i64 0)∧w=w':=by
 have c3:=h.cell (i:=3) rfl
 go_enter Tryz.func227,Tryz.ntmps227
 go_wp2_with fail
 go_step3
 go_wp2_with fail
 go_step3
 go_wp2_with fail
 go_loopw [12] (fun v wr=>v= .int .i64 0∧w=wr) (fun _ _=>0)
 case atStart=>exact⟨rfl,rfl⟩
 case round=>
  obtain⟨rfl,rfl⟩:=hrel
  go_wp2_with fail
  rw[Exit.noGoto_ret]
  go_ret
  exact⟨rfl,rfl⟩
theorem wN (fb vb m:Nat) (cv lv:Value) (p:Option Addr) (c:Nat) (w:World) (h:ab w fb [.pointer (some ⟨vb,0,none⟩),cv, .map (some m),lv] 299) (hs:w.cell? ⟨vb,4,none⟩=some (.slice p 0 c)):
  Calls Tryz.prog 229 #[.pointer (some ⟨fb,0,none⟩)] w fun e w'=>e= .returned (.int .i64 0)∧w=w':=by
 have c0:=h.cell (i:=0) rfl
 go_enter Tryz.func229,Tryz.ntmps229
 go_wp2_with fail
 go_loopw [13] (fun v wr=>v= .int .i64 0∧w=wr) (fun _ _=>0)
 case atStart=>exact⟨rfl,rfl⟩
 case round=>
  obtain⟨rfl,rfl⟩:=hrel
  go_wp2_with fail
  go_ret
  exact⟨rfl,rfl⟩
theorem sy (fb vb m:Nat) (lv:Value) (p:Option Addr) (c:Nat) (w:World) (h:ab w fb [.pointer (some ⟨vb,0,none⟩), .slice p 0 c, .map (some m),lv] 299):
  Calls Tryz.prog 230 #[.pointer (some ⟨fb,0,none⟩)] w fun e w'=>e= .returned (.int .i64 0)∧w=w':=by
 have c1:=h.cell (i:=1) rfl
 go_enter Tryz.func230,Tryz.ntmps230
 go_wp2_with fail
 go_loopw [14] (fun v wr=>v= .int .i64 0∧w=wr) (fun _ _=>0)
 case atStart=>exact⟨rfl,rfl⟩
 case round=>
  obtain⟨rfl,rfl⟩:=hrel
  go_wp2_with fail
  go_loopw [3,39] (fun n v wr=>n= .int .i64 0∧v= .int .i64 0∧w=wr) (fun _ _ _=>0)
  case atStart=>exact⟨rfl,rfl,rfl⟩
  case round=>
   obtain⟨rfl,rfl,rfl⟩:=hrel
   go_wp2_with fail
   go_ret
   exact⟨rfl,rfl⟩
structure eP (w:World) (lo vb jb sb db xb bb cb c2 m1 m2 m3:Nat) (ro:Option Addr) (key data:ByteArray) (gen clock n lbas first ep:Int) (d:ao):Prop where
 vol:ab w vb [.pointer (some ⟨jb,0,none⟩), .string key, .string data, .pointer (some ⟨xb,0,none⟩), .slice none 0 0, .pointer (some ⟨bb,0,none⟩), .pointer (some ⟨cb,0,none⟩), .pointer ro] 50
 jour:ab w jb (bE (.pointer (some ⟨sb,0,none⟩)) db ⟨gen,0,ep,clock,⟨n,lbas,first⟩⟩) 216
 space:ab w sb (cn ⟨n,lbas,first⟩ 0) 320
 disk:aD w db d
 index:ab w xb [.bool true, .slice none 0 0] 314
 book:ab w bb (bD c2 first ep m1 m2 m3) 167
 bclock:ab w c2 [.bool true, .int .i64 0] 302
 clock:ab w cb [.bool true, .int .i64 clock] 302
 maps:cG w m1 m2 m3 0 (.map []) (.map []) (.map [])
 o:lo≤sb∧sb<jb∧jb<xb∧xb<vb∧vb<c2∧vb<bb∧bb<cb∧c2<cb∧bb≠c2
 om:lo≤m1∧lo≤m2∧lo≤m3
theorem wO (db n ep:Nat) (ro:Option Addr) (gen clock lbas first:Int) (key data:ByteArray) (d:ao) (w:World) (h:aD w db d) (hdata:data.size=16) (hfe:first=(ep:Int)) (hso:fS (⟨gen,((0:Nat):Int),(ep:Int),clock,⟨(n:Int),lbas,first⟩⟩:aE))
  (hd:d.down=false) (hc:d.cs.length≤4096) (hb:d.bs.length≤1024) (hn:d.bs.length=n) (hsh:∀i,4≤i→i<n→d.shown i=(⟨(List.replicate 4096 0).toArray⟩:ByteArray)) (bS:(if ep % 2=0 then d.shown 3 else d.shown 2)=(⟨(List.replicate 4096 0).toArray⟩:ByteArray))
  (hF:∀wx,aD wx db d→Calls Tryz.prog 314 #[.pointer (some ⟨db,0,none⟩)] wx fun e w'=>e= .returned (.tuple #[(⟨gen,((0:Nat):Int),(ep:Int),clock,⟨(n:Int),lbas,first⟩⟩:aE).v, .string key, .int .i64 0])∧Below wx.heap.size wx w'):
  Calls Tryz.prog 127 #[.pointer (some ⟨db,0,none⟩), .string data, .pointer ro] w fun e w'=>(∃vb jb sb xb bb cb c2 m1 m2 m3,e= .returned (.tuple #[.pointer (some ⟨vb,0,none⟩), .int .i64 0])∧eP w' w.heap.size vb jb sb db xb bb cb c2 m1 m2 m3 ro key data gen clock n lbas first ep d)∧Below w.heap.size w w':=by
 have hmm:=@run_makeMap Tryz.prog
 have hds:(data.size:Int)=16:=by omega
 have hfa:∀(a b c d e f g:Int) (w:World),Sem.run Tryz.prog (Instr.field 130 (.agg #[.int .i64 a, .int .i64 b, .int .i64 c, .int .i64 d, .int .i64 e, .int .i64 f, .int .i64 g]) 4) w= .ok (.agg #[.int .i64 e, .int .i64 f, .int .i64 g]) w:=fun _ _ _ _ _ _ _ _=>by kernel_rfl
 have hfb:∀(a b c d e f g:Int) (w:World),Sem.run Tryz.prog (Instr.field 130 (.agg #[.int .i64 a, .int .i64 b, .int .i64 c, .int .i64 d, .int .i64 e, .int .i64 f, .int .i64 g]) 3) w= .ok (.int .i64 d) w:=fun _ _ _ _ _ _ _ _=>by kernel_rfl
 have hfc:∀(a b c d e f g:Int) (w:World),Sem.run Tryz.prog (Instr.field 130 (.agg #[.int .i64 a, .int .i64 b, .int .i64 c, .int .i64 d, .int .i64 e, .int .i64 f, .int .i64 g]) 2) w= .ok (.int .i64 c) w:=fun _ _ _ _ _ _ _ _=>by kernel_rfl
 have hfd:∀(e f g:Int) (w:World),Sem.run Tryz.prog (Instr.field 69 (.agg #[.int .i64 e, .int .i64 f, .int .i64 g]) 2) w= .ok (.int .i64 g) w:=fun _ _ _ _=>by kernel_rfl
 have HDw:=Lib.hid h
 have HSO:=Lib.hid hso
 have HFE:=Lib.hid hfe
 have HOP:=Lib.hid (AW db n 0 ep gen clock lbas first key d w h hso hd hc hb hn (by simpa using hsh) bS hF)
 clear h hso hd hc hb hn hsh bS hF hdata hfe
 go_enter Tryz.func127,Tryz.ntmps127
 go_wp2_with fail
 refine HOP.out.mono ?_
 rintro e wa ⟨⟨jb,sb,lv,rfl,hJ,hP,hown,hl1,hl2⟩,hba⟩
 obtain⟨lp,lc,rfl⟩:=qX hown
 have HBEwa:=Lib.hid hba
 have HDwa:=Lib.hid (HDw.out.below hba)
 have HJwa:=Lib.hid hJ
 have HPwa:=Lib.hid hP
 have HO1:=Lib.hid (And.intro hl1 hl2)
 clear hba hJ hP hown hl1 hl2 HOP
 go_wp2_with fail
 refine(sk _).mono ?_
 rintro e wb ⟨⟨xb,rfl,hX,hlx⟩,hbb⟩
 have HJwb:=Lib.hid (HJwa.out.below hbb HJwa.out.lt)
 have HPwb:=Lib.hid (HPwa.out.below hbb HPwa.out.lt)
 have HXwb:=Lib.hid hX
 have HDwb:=Lib.hid (HDwa.out.below hbb)
 have HBEwb:=Lib.hid (HBEwa.out.trans (hbb.mono HBEwa.out.size))
 have HO2:=Lib.hid (show jb<xb from Nat.lt_of_lt_of_le HJwa.out.lt hlx)
 clear hbb hX hlx
 go_wp2_with (first
  |((with_reducible refine aw 50 ?parts35 [.pointer (some ⟨jb,0,none⟩), .string key, .string data, .pointer (some ⟨xb,0,none⟩), .slice none 0 0, .pointer none, .pointer none, .pointer ro] ?hg ?ho ?hf ?_);(case hg|ho=>rfl);(case hf=>kernel_rfl))
  |((with_reducible refine ag 50 (.tmp 35) [.pointer (some ⟨jb,0,none⟩), .string key, .string data, .pointer (some ⟨xb,0,none⟩), .slice none 0 0, .pointer none, .pointer none, .pointer ro] (some 36) ?hgd ?ho ?hd ?hx ?_);(case hgd|ho|hd|hx=>rfl);(intro vb wc lc B2 e2 z2))
  |fail)
 have hbc:Below wb.heap.size wb wc:=e2.mono lc
 have HO3:=Lib.hid (show xb<vb from Nat.lt_of_lt_of_le HXwb.out.lt lc)
 have HJwc:=Lib.hid (HJwb.out.below hbc HJwb.out.lt)
 have HPwc:=Lib.hid (HPwb.out.below hbc HPwb.out.lt)
 have HXwc:=Lib.hid (HXwb.out.below hbc HXwb.out.lt)
 have HDwc:=Lib.hid (HDwb.out.below hbc)
 have HBEwc:=Lib.hid (HBEwb.out.trans (hbc.mono HBEwb.out.size))
 have HVwc:=Lib.hid B2
 clear B2 e2 z2 lc hbc
 refine(lq jb db (.pointer (some ⟨sb,0,none⟩)) gen ((0:Nat):Int) (ep:Int) clock (n:Int) lbas first _ HJwc.out).mono ?_
 rintro e wd ⟨rfl,hbd⟩
 have HJwd:=Lib.hid (HJwc.out.below hbd HJwc.out.lt)
 have HPwd:=Lib.hid (HPwc.out.below hbd HPwc.out.lt)
 have HXwd:=Lib.hid (HXwc.out.below hbd HXwc.out.lt)
 have HVwd:=Lib.hid (HVwc.out.below hbd HVwc.out.lt)
 have HDwd:=Lib.hid (HDwc.out.below hbd)
 have HBEwd:=Lib.hid (HBEwc.out.trans (hbd.mono HBEwc.out.size))
 clear hbd
 go_wp2_with fail
 refine(tZ first _ (by have:=HSO.out.geo.f0;simpa using this) (by have:=HSO.out.geo.f1;simpa using this)).mono ?_
 rintro e we ⟨⟨bb,c2,m1,m2,m3,rfl,hB,hC2,hlb,hlc,hM,hm1,hm2,hm3⟩,hbe⟩
 have HO4:=Lib.hid (show vb<c2∧vb<bb from⟨Nat.lt_of_lt_of_le HVwd.out.lt hlc,Nat.lt_of_lt_of_le HVwd.out.lt hlb⟩)
 have HJwe:=Lib.hid (HJwd.out.below hbe HJwd.out.lt)
 have HPwe:=Lib.hid (HPwd.out.below hbe HPwd.out.lt)
 have HXwe:=Lib.hid (HXwd.out.below hbe HXwd.out.lt)
 have HVwe:=Lib.hid (HVwd.out.below hbe HVwd.out.lt)
 have HDwe:=Lib.hid (HDwd.out.below hbe)
 have HBEwe:=Lib.hid (HBEwd.out.trans (hbe.mono HBEwd.out.size))
 have HO6:=Lib.hid (show bb≠c2 from by intro h;subst h;have h1:=hB;have h2:=hC2;unfold ab at h1 h2;rw[h1]at h2;simp[bD]at h2)
 have HBwe:=Lib.hid (show ab we bb (bD c2 first (ep:Int) m1 m2 m3) 167 from by have h:=hB;rw[show bD c2 first first m1 m2 m3=bD c2 first (ep:Int) m1 m2 m3 by rw[←HFE.out]]at h;exact h)
 have HC2we:=Lib.hid hC2
 have HMwe:=Lib.hid hM
 have HMB:=Lib.hid (show w.heap.size≤m1∧w.heap.size≤m2∧w.heap.size≤m3 from by have:=HBEwd.out.size;omega)
 clear hbe hB hC2 hlb hlc hM hm1 hm2 hm3
 have k5:=HVwe.out.cell (i:=5) rfl
 have f5:=HVwe.out.free 5
 go_wp2_with fail
 obtain⟨wf,hqwf⟩:∃wf,we.setCell ⟨vb,5,none⟩ (.pointer (some ⟨bb,0,none⟩))=wf:=⟨_,rfl⟩
 have htwf:aa [vb] we wf:=by rw[←hqwf];exact(aa.refl _ _).setCell (.inl (by simp)) 5 _
 have hlo:w.heap.size≤vb:=by have:=HO1.out;have:=HO2.out;have:=HO3.out;omega
 have HVwf:=Lib.hid (show ab wf vb [.pointer (some ⟨jb,0,none⟩), .string key, .string data, .pointer (some ⟨xb,0,none⟩), .slice none 0 0, .pointer (some ⟨bb,0,none⟩), .pointer none, .pointer ro] 50 from by rw[←hqwf];exact(HVwe.out.set 5 _).ext rfl)
 have HJwf:=Lib.hid (htwf.blk HJwe.out (by have:=HO1.out;have:=HO2.out;have:=HO3.out;have:=HO4.out;(try have:=HO5.out);simp;omega))
 have HPwf:=Lib.hid (htwf.blk HPwe.out (by have:=HO1.out;have:=HO2.out;have:=HO3.out;have:=HO4.out;(try have:=HO5.out);simp;omega))
 have HXwf:=Lib.hid (htwf.blk HXwe.out (by have:=HO1.out;have:=HO2.out;have:=HO3.out;have:=HO4.out;(try have:=HO5.out);simp;omega))
 have HBwf:=Lib.hid (htwf.blk HBwe.out (by have:=HO1.out;have:=HO2.out;have:=HO3.out;have:=HO4.out;(try have:=HO5.out);simp;omega))
 have HC2wf:=Lib.hid (htwf.blk HC2we.out (by have:=HO1.out;have:=HO2.out;have:=HO3.out;have:=HO4.out;(try have:=HO5.out);simp;omega))
 have HMwf:=Lib.hid (HMwe.out.turned htwf (by intro x hx hm;simp at hm;exact HMwe.out.ne HVwe.out x hx hm))
 have HDwf:=Lib.hid (HDwe.out.turned htwf (by intro x hx hm;simp at hm;subst hm;have:=HDw.out.lt x hx;omega))
 have HBEwf:=Lib.hid (htwf.below HBEwe.out (by intro x hx;simp at hx;subst hx;exact hlo) HBEwe.out.size)
 rw[hqwf]
 clear hqwf htwf hlo
 clear k5 f5
 refine(lq jb db (.pointer (some ⟨sb,0,none⟩)) gen ((0:Nat):Int) (ep:Int) clock (n:Int) lbas first _ HJwf.out).mono ?_
 rintro e wg0 ⟨rfl,hbg0⟩
 have HJwg0:=Lib.hid (HJwf.out.below hbg0 HJwf.out.lt)
 have HPwg0:=Lib.hid (HPwf.out.below hbg0 HPwf.out.lt)
 have HXwg0:=Lib.hid (HXwf.out.below hbg0 HXwf.out.lt)
 have HVwg0:=Lib.hid (HVwf.out.below hbg0 HVwf.out.lt)
 have HBwg0:=Lib.hid (HBwf.out.below hbg0 HBwf.out.lt)
 have HC2wg0:=Lib.hid (HC2wf.out.below hbg0 HC2wf.out.lt)
 have HMwg0:=Lib.hid (HMwf.out.below hbg0)
 have HDwg0:=Lib.hid (HDwf.out.below hbg0)
 have HBEwg0:=Lib.hid (HBEwf.out.trans (hbg0.mono HBEwf.out.size))
 clear hbg0
 go_wp2_with fail
 refine(lE clock _ HSO.out.c0 HSO.out.c1).mono ?_
 rintro e wg1 ⟨⟨cb,rfl,hC,hlc⟩,hbg1⟩
 have HO5:=Lib.hid (show bb<cb∧c2<cb from⟨Nat.lt_of_lt_of_le HBwg0.out.lt hlc,Nat.lt_of_lt_of_le HC2wg0.out.lt hlc⟩)
 have HJwg1:=Lib.hid (HJwg0.out.below hbg1 HJwg0.out.lt)
 have HPwg1:=Lib.hid (HPwg0.out.below hbg1 HPwg0.out.lt)
 have HXwg1:=Lib.hid (HXwg0.out.below hbg1 HXwg0.out.lt)
 have HVwg1:=Lib.hid (HVwg0.out.below hbg1 HVwg0.out.lt)
 have HBwg1:=Lib.hid (HBwg0.out.below hbg1 HBwg0.out.lt)
 have HC2wg1:=Lib.hid (HC2wg0.out.below hbg1 HC2wg0.out.lt)
 have HMwg1:=Lib.hid (HMwg0.out.below hbg1)
 have HDwg1:=Lib.hid (HDwg0.out.below hbg1)
 have HBEwg1:=Lib.hid (HBEwg0.out.trans (hbg1.mono HBEwg0.out.size))
 have HCwg1:=Lib.hid hC
 clear hbg1 hC hlc
 have k6:=HVwg1.out.cell (i:=6) rfl
 have f6:=HVwg1.out.free 6
 have HMM:=Lib.hid hmm
 clear hmm
 go_upto_region 9 with fail
 obtain⟨wg2,hqwg2⟩:∃wg2,wg1.setCell ⟨vb,6,none⟩ (.pointer (some ⟨cb,0,none⟩))=wg2:=⟨_,rfl⟩
 have htwg2:aa [vb] wg1 wg2:=by rw[←hqwg2];exact(aa.refl _ _).setCell (.inl (by simp)) 6 _
 have hlo:w.heap.size≤vb:=by have:=HO1.out;have:=HO2.out;have:=HO3.out;omega
 have HVwg2:=Lib.hid (show ab wg2 vb [.pointer (some ⟨jb,0,none⟩), .string key, .string data, .pointer (some ⟨xb,0,none⟩), .slice none 0 0, .pointer (some ⟨bb,0,none⟩), .pointer (some ⟨cb,0,none⟩), .pointer ro] 50 from by rw[←hqwg2];exact(HVwg1.out.set 6 _).ext rfl)
 have HJwg2:=Lib.hid (htwg2.blk HJwg1.out (by have:=HO1.out;have:=HO2.out;have:=HO3.out;have:=HO4.out;(try have:=HO5.out);simp;omega))
 have HPwg2:=Lib.hid (htwg2.blk HPwg1.out (by have:=HO1.out;have:=HO2.out;have:=HO3.out;have:=HO4.out;(try have:=HO5.out);simp;omega))
 have HXwg2:=Lib.hid (htwg2.blk HXwg1.out (by have:=HO1.out;have:=HO2.out;have:=HO3.out;have:=HO4.out;(try have:=HO5.out);simp;omega))
 have HBwg2:=Lib.hid (htwg2.blk HBwg1.out (by have:=HO1.out;have:=HO2.out;have:=HO3.out;have:=HO4.out;(try have:=HO5.out);simp;omega))
 have HC2wg2:=Lib.hid (htwg2.blk HC2wg1.out (by have:=HO1.out;have:=HO2.out;have:=HO3.out;have:=HO4.out;(try have:=HO5.out);simp;omega))
 have HCwg2:=Lib.hid (htwg2.blk HCwg1.out (by have:=HO1.out;have:=HO2.out;have:=HO3.out;have:=HO4.out;(try have:=HO5.out);simp;omega))
 have HMwg2:=Lib.hid (HMwg1.out.turned htwg2 (by intro x hx hm;simp at hm;exact HMwg1.out.ne HVwg1.out x hx hm))
 have HDwg2:=Lib.hid (HDwg1.out.turned htwg2 (by intro x hx hm;simp at hm;subst hm;have:=HDw.out.lt x hx;omega))
 have HBEwg2:=Lib.hid (htwg2.below HBEwg1.out (by intro x hx;simp at hx;subst hx;exact hlo) HBEwg1.out.size)
 rw[hqwg2]
 clear hqwg2 htwg2 hlo
 clear k6 f6
 have hmm:=HMM.out
 go_wp2_with (first
  |((with_reducible refine aw 299 ?parts61 [.pointer (some ⟨vb,0,none⟩), .slice none 0 0, .map (some wg2.heap.size), .slice lp 0 lc] ?hg ?ho ?hf ?_);(case hg|ho=>rfl);(case hf=>kernel_rfl))
  |((with_reducible refine ag 299 (.tmp 61) [.pointer (some ⟨vb,0,none⟩), .slice none 0 0, .map (some wg2.heap.size), .slice lp 0 lc] (some 62) ?hgd ?ho ?hd ?hx ?_);(case hgd|ho|hd|hx=>rfl);(intro fb wg3 l3 B3 e3 z3))
  |fail)
 have hbh:Below wg2.heap.size wg2 wg3:=(((Below.refl _ _).alloc (Nat.le_refl _) _).trans (e3.mono (by have:=l3;simp at this;omega)))
 have HJwg3:=Lib.hid (HJwg2.out.below hbh HJwg2.out.lt)
 have HPwg3:=Lib.hid (HPwg2.out.below hbh HPwg2.out.lt)
 have HXwg3:=Lib.hid (HXwg2.out.below hbh HXwg2.out.lt)
 have HVwg3:=Lib.hid (HVwg2.out.below hbh HVwg2.out.lt)
 have HBwg3:=Lib.hid (HBwg2.out.below hbh HBwg2.out.lt)
 have HC2wg3:=Lib.hid (HC2wg2.out.below hbh HC2wg2.out.lt)
 have HCwg3:=Lib.hid (HCwg2.out.below hbh HCwg2.out.lt)
 have HMwg3:=Lib.hid (HMwg2.out.below hbh)
 have HDwg3:=Lib.hid (HDwg2.out.below hbh)
 have HBEwg3:=Lib.hid (HBEwg2.out.trans (hbh.mono HBEwg2.out.size))
 have HFwg3:=Lib.hid B3
 obtain⟨m,HM⟩:∃m,Hid (wg2.heap.size=m):=⟨_,rfl⟩
 rw[HM.out]at HFwg3
 clear hbh B3 e3 z3 l3
 refine(yR fb vb m (.slice none 0 0) lp lc _ HFwg3.out).mono ?_
 rintro e w' ⟨rfl,rfl⟩
 clear hmm
 go_upto_region 13 with fail
 refine wp_region_held_drew (S:=fun wx=>wx.cell? ⟨vb,5,none⟩=some (.pointer (some ⟨bb,0,none⟩))∧wx.cell? ⟨vb,6,none⟩=some (.pointer (some ⟨cb,0,none⟩))) (by kernel_rfl) (⟨HVwg3.out.drew.cell (i:=5) rfl,HVwg3.out.drew.cell (i:=6) rfl⟩) (fun hHeld=> ?_)
 obtain⟨wh,hwh⟩:∃wh,wh=wg3.drew:=⟨_,rfl⟩
 have hbw:Below wg3.heap.size wg3 wh:=by rw[hwh];exact(Below.refl _ _).drew
 have HJwh:=Lib.hid (HJwg3.out.below hbw HJwg3.out.lt)
 have HPwh:=Lib.hid (HPwg3.out.below hbw HPwg3.out.lt)
 have HXwh:=Lib.hid (HXwg3.out.below hbw HXwg3.out.lt)
 have HVwh:=Lib.hid (HVwg3.out.below hbw HVwg3.out.lt)
 have HBwh:=Lib.hid (HBwg3.out.below hbw HBwg3.out.lt)
 have HC2wh:=Lib.hid (HC2wg3.out.below hbw HC2wg3.out.lt)
 have HCwh:=Lib.hid (HCwg3.out.below hbw HCwg3.out.lt)
 have HFwh:=Lib.hid (HFwg3.out.below hbw HFwg3.out.lt)
 have HMwh:=Lib.hid (HMwg3.out.below hbw)
 have HDwh:=Lib.hid (HDwg3.out.below hbw)
 have HBEwh:=Lib.hid (HBEwg3.out.trans (hbw.mono HBEwg3.out.size))
 rw[←hwh]
 rw[←hwh]at hHeld
 clear hwh hbw
 refine hp 0 ?_
 refine hp 1 ?_
 refine hp 2 ?_
 refine hp 3 ?_
 refine hp 5 ?_
 refine wpAnyH_ready (rs:=[4]) (by kernel_rfl) (by simp) ?_
 refine AllReadyH.cons rfl (fun K hK=> ?_) AllReadyH.nil
 go_simp
 refine(jd bb c2 first (ep:Int) m1 m2 m3 _ HBwh.out).mono ?_
 rintro e w' ⟨rfl,rfl⟩
 (try go_wp2_with fail)
 refine hK.out _ _ (⟨HVwh.out.cell (i:=5) rfl,HVwh.out.cell (i:=6) rfl⟩) (fun hHeld2=> ?_)
 clear hK K hHeld
 have hHeld:=hHeld2
 clear hHeld2
 (try go_frame)
 refine wpAnyH_ready (rs:=[6]) (by kernel_rfl) (by simp) ?_
 refine AllReadyH.cons rfl (fun K hK=> ?_) AllReadyH.nil
 go_simp
 refine(lq jb db (.pointer (some ⟨sb,0,none⟩)) gen ((0:Nat):Int) (ep:Int) clock (n:Int) lbas first _ HJwh.out).mono ?_
 rintro e wi ⟨rfl,hbi⟩
 have HJwi:=Lib.hid (HJwh.out.below hbi HJwh.out.lt)
 have HPwi:=Lib.hid (HPwh.out.below hbi HPwh.out.lt)
 have HXwi:=Lib.hid (HXwh.out.below hbi HXwh.out.lt)
 have HVwi:=Lib.hid (HVwh.out.below hbi HVwh.out.lt)
 have HBwi:=Lib.hid (HBwh.out.below hbi HBwh.out.lt)
 have HC2wi:=Lib.hid (HC2wh.out.below hbi HC2wh.out.lt)
 have HCwi:=Lib.hid (HCwh.out.below hbi HCwh.out.lt)
 have HFwi:=Lib.hid (HFwh.out.below hbi HFwh.out.lt)
 have HMwi:=Lib.hid (HMwh.out.below hbi)
 have HDwi:=Lib.hid (HDwh.out.below hbi)
 have HBEwi:=Lib.hid (HBEwh.out.trans (hbi.mono HBEwh.out.size))
 clear hbi
 (try go_wp2_with fail)
 refine hK.out _ _ (⟨HVwi.out.cell (i:=5) rfl,HVwi.out.cell (i:=6) rfl⟩) (fun hHeld2=> ?_)
 clear hK K hHeld
 have hHeld:=hHeld2
 clear hHeld2
 (try go_frame)
 refine hp 7 ?_
 refine hp 8 ?_
 refine hp 9 ?_
 refine hp 10 ?_
 refine hp 11 ?_
 refine hp 12 ?_
 refine hp 13 ?_
 refine hp 15 ?_
 refine hp 16 ?_
 refine hp 17 ?_
 refine hp 18 ?_
 refine wpAnyH_ready (rs:=[14]) (by kernel_rfl) (by simp) ?_
 refine AllReadyH.cons rfl (fun K hK=> ?_) AllReadyH.nil
 go_simp
 refine(mY bb c2 first (ep:Int) m1 m2 m3 _ HBwi.out 0 HC2wi.out).mono ?_
 rintro e w' ⟨rfl,rfl⟩
 (try go_wp2_with fail)
 refine hK.out _ _ (⟨HVwi.out.cell (i:=5) rfl,HVwi.out.cell (i:=6) rfl⟩) (fun hHeld2=> ?_)
 clear hK K hHeld
 have hHeld:=hHeld2
 clear hHeld2
 (try go_frame)
 refine wpAnyH_ready (rs:=[19]) (by kernel_rfl) (by simp) ?_
 refine AllReadyH.cons rfl (fun K hK=> ?_) AllReadyH.nil
 go_simp
 refine(gU cb clock _ HCwi.out).mono ?_
 rintro e w' ⟨rfl,rfl⟩
 (try go_wp2_with fail)
 refine hK.out _ _ (⟨HVwi.out.cell (i:=5) rfl,HVwi.out.cell (i:=6) rfl⟩) (fun hHeld2=> ?_)
 clear hK K hHeld
 have hHeld:=hHeld2
 clear hHeld2
 (try go_frame)
 refine hp 20 ?_
 refine hp 21 ?_
 refine wpAnyH_done (by kernel_rfl) ?_ _
 clear hHeld
 have hclk:=HSO.out.c0
 simp only at hclk
 go_wp2_with fail
 refine(wN fb vb m (.slice none 0 0) (.slice lp 0 lc) none 0 _ HFwi.out (HVwi.out.cell (i:=4) rfl)).mono ?_
 rintro e w' ⟨rfl,rfl⟩
 go_wp2_with fail
 refine(sy fb vb m (.slice lp 0 lc) none 0 _ HFwi.out).mono ?_
 rintro e w' ⟨rfl,rfl⟩
 go_wp2_with fail
 go_ret2
 exact⟨⟨vb,jb,sb,xb,bb,cb,c2,m1,m2,m3,rfl,⟨HVwi.out,HJwi.out,HPwi.out,HDwi.out,HXwi.out,HBwi.out,HC2wi.out,HCwi.out,HMwi.out,by have:=HO1.out;have:=HO2.out;have:=HO3.out;have:=HO4.out;have:=HO5.out;have:=HO6.out;omega,HMB.out⟩⟩,HBEwi.out⟩
structure ba where
 lba:Int
 epoch:Int
 slot:Int
def ba.cells (v:ba):List Value:=[.int .i64 v.lba, .int .i64 v.epoch, .int .i64 v.slot]
def cO (l:List ba):List Value:=l.flatMap ba.cells
theorem um (l:List ba):(cO l).length=l.length*3:=by
 induction l with
 |nil=>rfl
 |cons a r ih=>show(a.cells++cO r).length= _;rw[List.length_append,ih,List.length_cons];show 3+_= _;omega
theorem AX (l:List ba):∀v∈cO l,v.oneCell'=true:=by
 intro v hv
 simp only[cO,List.mem_flatMap]at hv
 obtain⟨x,_,hx⟩:=hv
 simp[ba.cells]at hx
 rcases hx with rfl|rfl|rfl<;>rfl
theorem DV (l:List ba):∀(j:Nat) (p:ba),l[j]?=some p→(cO l)[j*3]?=some (.int .i64 p.lba)∧(cO l)[j*3+1]?=some (.int .i64 p.epoch)∧(cO l)[j*3+2]?=some (.int .i64 p.slot):=by
 induction l with
 |nil=>intro j p h;simp at h
 |cons a r ih=>
  intro j p h
  cases j with
  |zero=>simp at h;subst h;exact⟨rfl,rfl,rfl⟩
  |succ j=>
   have:=ih j p (by simpa using h)
   show(a.cells++cO r)[(j+1)*3]?= _∧(a.cells++cO r)[(j+1)*3+1]?= _∧(a.cells++cO r)[(j+1)*3+2]?= _
   have ha:a.cells.length=3:=rfl
   rw[List.getElem?_append_right (by omega),List.getElem?_append_right (by omega),List.getElem?_append_right (by omega),ha]
   rw[show(j+1)*3-3=j*3 by omega,show(j+1)*3+1-3=j*3+1 by omega,show(j+1)*3+2-3=j*3+2 by omega]
   exact this
def uo (a b:Int):Int:=if a<b then -1 else if b<a then 1 else 0
def GW (a b:ba):Int:=if uo a.lba b.lba≠0 then uo a.lba b.lba else if uo a.epoch b.epoch≠0 then uo a.epoch b.epoch else uo a.slot b.slot
theorem gn (r:Rec) (w:World) (hname:r.name.size≤1073741824) (hf:Fits r.epoch):
  Calls Tryz.prog 80 #[r.v] w fun e w'=>e= .returned (.int .i64 (ij r))∧Below w.heap.size w w':=by
 obtain⟨kind,epoch,time,count,target,till,root,name⟩:=r
 by_cases k1:kind=1
 ·subst k1;exact GL epoch time count target till root name w hname hf
 by_cases k2:kind=2
 ·subst k2;exact GM epoch time count target till root name w hname hf
 by_cases k5:kind=5
 ·subst k5;exact GN epoch time count target till root name w hname hf
 by_cases k3:kind=3
 ·subst k3;exact GO epoch time count target till root name w hname hf
 by_cases k4:kind=4
 ·subst k4;exact GP epoch time count target till root name w hname hf
 exact GQ kind epoch time count target till root name w hname hf k1 k2 k5 k3 k4
theorem me (r:Rec) (w:World):
  Calls Tryz.prog 340 #[r.v] w fun e w'=>e= .returned (.bool (am r))∧Below w.heap.size w w':=by
 obtain⟨kind,epoch,time,count,target,till,root,name⟩:=r
 by_cases k1:kind=1
 ·subst k1;exact GE epoch time count target till root name w
 by_cases k2:kind=2
 ·subst k2;exact GF epoch time count target till root name w
 by_cases k5:kind=5
 ·subst k5;exact GG epoch time count target till root name w
 by_cases k3:kind=3
 ·subst k3;exact GH epoch time count target till root name w
 by_cases k4:kind=4
 ·subst k4;exact GI epoch time count target till root name w
 exact GK kind epoch time count target till root name w k1 k2 k5 k3 k4
theorem ki {r:Rec} (h:am r=true):ij r=0:=by unfold ij;rw[h];rfl
theorem nS {r:Rec} (h:am r=false):ij r=2:=by unfold ij;rw[h];rfl
def bW:List Int:=[1,4,8,4,4,8]
def Rec.nums (r:Rec):List Int:=[r.kind,r.epoch,r.time,r.count,r.target,r.till]
def dR (r:Rec):List UInt8:=fR bW r.nums++cZ r.root.data.toList++cZ r.name.data.toList
theorem dd {r:Rec} (h:am r=true):(1≤r.kind∧r.kind≤5)∧(0≤r.epoch∧r.epoch≤4294967295)∧(0≤r.time∧r.time≤1099511627776)∧(0≤r.count∧r.count≤4096)∧(0≤r.target∧r.target≤4294967295)∧(0≤r.till∧r.till≤1099511627776)∧r.root.size≤32∧r.name.size≤16:=by
 obtain⟨kind,epoch,time,count,target,till,root,name⟩:=r
 have e:name.data.toList.length=name.size:=rfl
 simp only[am,au,cJ,e,Bool.and_eq_true,decide_eq_true_eq]at h ⊢
 obtain⟨⟨⟨⟨h1,h2⟩,h3⟩,h4⟩,h5⟩:=h
 split at h5
 ·simp only[Bool.and_eq_true,decide_eq_true_eq]at h5;omega
 ·split at h5
  ·simp only[Bool.and_eq_true,decide_eq_true_eq]at h5;omega
  ·split at h5
   ·simp only[Bool.and_eq_true,decide_eq_true_eq]at h5;omega
   ·split at h5
    ·simp only[Bool.and_eq_true,decide_eq_true_eq]at h5;omega
    ·simp at h5
theorem pO {r:Rec} (h:am r=true):lY bW r.nums:=by
 obtain⟨⟨a1,a2⟩,⟨b1,b2⟩,⟨c1,c2⟩,⟨d1,d2⟩,⟨e1,e2⟩,⟨f1,f2⟩,_,_⟩:=dd h
 refine⟨rfl,fun i a x ha hx=> ?_⟩
 match i,ha,hx with
 |0,ha,hx=>simp[bW,Rec.nums]at ha hx;subst ha;subst hx;simp;omega
 |1,ha,hx=>simp[bW,Rec.nums]at ha hx;subst ha;subst hx;simp;omega
 |2,ha,hx=>simp[bW,Rec.nums]at ha hx;subst ha;subst hx;simp;omega
 |3,ha,hx=>simp[bW,Rec.nums]at ha hx;subst ha;subst hx;simp;omega
 |4,ha,hx=>simp[bW,Rec.nums]at ha hx;subst ha;subst hx;simp;omega
 |5,ha,hx=>simp[bW,Rec.nums]at ha hx;subst ha;subst hx;simp;omega
 |i+6,ha,hx=>simp[bW]at ha
theorem hZ (r:Rec):(fR bW r.nums).length=29:=by simp[fR,bW,Rec.nums,beBytes_length]
theorem lr (w:World):
  Calls Tryz.prog 283 #[] w fun e w'=>∃v,e= .returned v∧bc w' v bW∧Below w.heap.size w w':=by
 go_enter Tryz.func283,Tryz.ntmps283
 go_wp2_with fail
 go_ret
 exact⟨_,rfl,bc.blk (xs:=bW) (ab.new w (bW.map (Value.int .i64)) 3) rfl 6,(Below.refl _ _).alloc (Nat.le_refl _) _⟩
def AY (r:Rec) (e:Ending):Prop:=
 (am r=true∧∃q,e= .returned (.tuple #[.string q, .int .i64 0])∧aj q (dR r))∨(am r=false∧e= .returned (.tuple #[.string ⟨#[]⟩, .int .i64 2]))
def yS (r:Rec) (e:Ending):Prop:=
 (am r=true∧∃q,e= .returned (.tuple #[.string q, .bool true])∧aj q (dR r))∨(am r=false∧e= .returned (.tuple #[.string ⟨#[]⟩, .bool false]))
structure dN (w:World) (b:Nat) (r:Rec):Prop where
 lt:b<w.heap.size
 c0:w.cell? ⟨b,0,none⟩=some (.int .i64 r.kind)
 c1:w.cell? ⟨b,1,none⟩=some (.int .i64 r.epoch)
 c2:w.cell? ⟨b,2,none⟩=some (.int .i64 r.time)
 c3:w.cell? ⟨b,3,none⟩=some (.int .i64 r.count)
 c4:w.cell? ⟨b,4,none⟩=some (.int .i64 r.target)
 c5:w.cell? ⟨b,5,none⟩=some (.int .i64 r.till)
 c6:w.cell? ⟨b,6,none⟩=some (.string r.root)
 c7:w.cell? ⟨b,7,none⟩=some (.string r.name)
theorem dN.below {w w':World} {b:Nat} {r:Rec} (h:dN w b r) {B:Nat} (hb:Below B w w') (hB:b<B):dN w' b r:=
 ⟨by have:=hb.size;have:=h.lt;omega,by rw[hb.cell (by exact hB)];exact h.c0,by rw[hb.cell (by exact hB)];exact h.c1,by rw[hb.cell (by exact hB)];exact h.c2,by rw[hb.cell (by exact hB)];exact h.c3,
  by rw[hb.cell (by exact hB)];exact h.c4,by rw[hb.cell (by exact hB)];exact h.c5,by rw[hb.cell (by exact hB)];exact h.c6,by rw[hb.cell (by exact hB)];exact h.c7⟩
theorem dN.blk {w:World} {b:Nat} {r:Rec} {t:TypeId} (h:ab w b r.cells t):dN w b r:=
 ⟨h.lt,h.cell rfl,h.cell rfl,h.cell rfl,h.cell rfl,h.cell rfl,h.cell rfl,h.cell rfl,h.cell rfl⟩
theorem aI {r:Rec}:(Tryz.prog.info? 25).map (·.size)=some r.cells.length:=by kernel_rfl
theorem jl (r:Rec) (w:World) (hroot:r.root.size≤1048576) (hname:r.name.size≤1048576) (hf:Fits r.epoch):
  Calls Tryz.prog 174 #[r.v] w fun e w'=>AY r e∧Below w.heap.size w w':=by
 have hname:r.name.size≤1073741824:=by omega
 cases hok:am r with
 |false=>
  have HK:=Lib.hid hok;clear hok
  go_enter Tryz.func174,Tryz.ntmps174
  go_wp2_with (first
   |((with_reducible refine ag 25 (.tmp 0) r.cells (some 1) ?hgd ?ho ?hd ?hx ?_);(case hgd|ho|hd|hx=>rfl);(intro b w0 l0 B0 e0 z0))
   |((with_reducible refine ar 25 (.tmp 1) b r.cells 25 _ B0 Tryz.underlying25 rfl aI ?hgd ?ho ?hx ?_);(case hgd|ho|hx=>rfl)))
  refine(gn r _ hname hf).mono ?_
  rintro e w1 ⟨rfl,hb1⟩
  rw[nS HK.out]
  have hbw1:Below w.heap.size w w1:=(e0.mono l0).trans (hb1.mono (by omega))
  clear e0 hb1
  go_wp2_with fail
  go_ret2
  exact⟨.inr ⟨HK.out,rfl⟩,hbw1⟩
 |true=>
  have hpk:=pO hok
  have HK:=Lib.hid hok;clear hok
  go_enter Tryz.func174,Tryz.ntmps174
  go_wp2_with (first
   |((with_reducible refine ag 25 (.tmp 0) r.cells (some 1) ?hgd ?ho ?hd ?hx ?_);(case hgd|ho|hd|hx=>rfl);(intro b w0 l0 B0 e0 z0))
   |((with_reducible refine ar 25 (.tmp 1) b r.cells 25 _ B0 Tryz.underlying25 rfl aI ?hgd ?ho ?hx ?_);(case hgd|ho|hx=>rfl)))
  refine(gn r _ hname hf).mono ?_
  rintro e w1 ⟨rfl,hb1⟩
  rw[ki HK.out]
  have R1:=(dN.blk B0).below hb1 z0
  have hbw1:Below w.heap.size w w1:=(e0.mono l0).trans (hb1.mono (by omega))
  have hl1:w.heap.size≤b:=l0
  clear e0 hb1 z0 l0 B0
  obtain⟨kind,epoch,time,count,target,till,root,name⟩:=r
  obtain⟨r1,c0,c1,c2,c3,c4,c5,c6,c7⟩:=R1
  have HP:=Lib.hid hpk;clear hpk
  go_wp2_with fail
  go_region_held3 (fun w'=>w'.cell? ⟨b,0,none⟩=some (.int .i64 kind)∧w'.cell? ⟨b,1,none⟩=some (.int .i64 epoch)∧w'.cell? ⟨b,2,none⟩=some (.int .i64 time)∧w'.cell? ⟨b,3,none⟩=some (.int .i64 count)∧w'.cell? ⟨b,4,none⟩=some (.int .i64 target)∧w'.cell? ⟨b,5,none⟩=some (.int .i64 till)) (go_keep) ((first|(go_at_call 283;refine(lr _).mono ?_;rintro e w2 ⟨v,rfl,hv,hb2⟩;have R2:dN w2 b ⟨kind,epoch,time,count,target,till,root,name⟩:=(by first|exact(dN.mk r1 c0 c1 c2 c3 c4 c5 c6 c7:dN w1 b ⟨kind,epoch,time,count,target,till,root,name⟩).below ((Below.refl _ _).drew.trans hb2) r1|exact(dN.mk r1 c0 c1 c2 c3 c4 c5 c6 c7:dN w1 b ⟨kind,epoch,time,count,target,till,root,name⟩).below (((Below.refl _ _).alloc (Nat.le_refl _) _).drew.trans (hb2.mono (by simp))) r1);obtain⟨r2,p0,p1,p2,p3,p4,p5,p6,p7⟩:=R2)|(go_at_call 240;refine(iV v _ bW [kind,epoch,time,count,target,till] _ (by first|exact hv.below ((Below.refl _ _).alloc (Nat.le_refl _) _) (Nat.le_refl _)|exact hv) (by first|exact bc.blk (xs:=[kind,epoch,time,count,target,till]) (ab.new w2 [.int .i64 kind, .int .i64 epoch, .int .i64 time, .int .i64 count, .int .i64 target, .int .i64 till] _) rfl 6|exact(bc.blk (xs:=[kind,epoch,time,count,target,till]) (ab.drew (ab.new w1 [.int .i64 kind, .int .i64 epoch, .int .i64 time, .int .i64 count, .int .i64 target, .int .i64 till] _)) rfl 6).below hb2 (Nat.le_refl _)) (by simp) (by simp) (by exact HP.out)).mono ?_;rintro e w3 ⟨q,rfl,tq,hb3⟩;have R3:dN w3 b ⟨kind,epoch,time,count,target,till,root,name⟩:=(by first|exact(dN.mk r2 p0 p1 p2 p3 p4 p5 p6 p7:dN w2 b ⟨kind,epoch,time,count,target,till,root,name⟩).below (((Below.refl _ _).alloc (Nat.le_refl _) _).trans (hb3.mono (by simp))) r2|exact(dN.mk r2 p0 p1 p2 p3 p4 p5 p6 p7:dN w2 b ⟨kind,epoch,time,count,target,till,root,name⟩).below hb3 r2);have hbb:Below w1.heap.size w1 w3:=(by first|exact(Below.refl _ _).drew.trans (hb2.trans (((Below.refl w2.heap.size w2).alloc (Nat.le_refl _) _).trans (hb3.mono (by simp))|>.mono hb2.size))|exact((Below.refl w1.heap.size w1).alloc (Nat.le_refl _) _).drew.trans ((hb2.trans (hb3.mono hb2.size)).mono (by simp)));obtain⟨r3,s0,s1,s2,s3,s4,s5,s6,s7⟩:=R3;clear p0 p1 p2 p3 p4 p5 p6 p7 c0 c1 c2 c3 c4 c5 c6 c7)|fail))
  all_goals
   clear s0 s1 s2 s3 s4 s5
   have hl32:=(dd HK.out).2.2.2.2.2.2
   have hr32:root.size≤32:=hl32.1
   have hn16:name.size≤16:=hl32.2
   have sq:q.size≤29:=by rw[tq.size];exact Nat.le_of_eq (hZ ⟨kind,epoch,time,count,target,till,root,name⟩)
   clear hl32
   go_wp2_with fail
   go_region_with ((first|(go_at_call_of 242 (Value.string root);refine(eT root _ (by omega)).mono ?_;rintro e wA ⟨x,rfl,tx,hbA⟩;have ltA:b<wA.heap.size:=(by first|exact Nat.lt_of_lt_of_le r3 hbA.size|exact Nat.lt_of_lt_of_le ltB hbA.size);have a6A:=hbA.cell (p:=⟨b,6,none⟩) (by first|exact r3|exact ltB);have a7A:=hbA.cell (p:=⟨b,7,none⟩) (by first|exact r3|exact ltB);have sA:x.size≤36:=(by rw[tx.size,bg];have e:root.data.toList.length=root.size:=rfl;omega))|(go_at_call_of 242 (Value.string name);refine(eT name _ (by omega)).mono ?_;rintro e wB ⟨y,rfl,ty,hbB⟩;have ltB:b<wB.heap.size:=(by first|exact Nat.lt_of_lt_of_le r3 hbB.size|exact Nat.lt_of_lt_of_le ltA hbB.size);have a6B:=hbB.cell (p:=⟨b,6,none⟩) (by first|exact r3|exact ltA);have a7B:=hbB.cell (p:=⟨b,7,none⟩) (by first|exact r3|exact ltA);have sB:y.size≤36:=(by rw[ty.size,bg];have e:name.data.toList.length=name.size:=rfl;omega))))
   all_goals go_wp2_with fail
   all_goals go_ret2
   all_goals refine⟨.inl ⟨HK.out,_,rfl,(tq.append tx).append ty⟩, ?_⟩
   all_goals(have hz3:=hbb.size;have hz1:=hbw1.size)
   all_goals first
    |exact hbw1.trans ((hbb.trans ((Below.refl w3.heap.size w3).drew.trans (hbA.trans (hbB.mono hbA.size))|>.mono hbb.size)).mono hz1)
    |exact hbw1.trans ((hbb.trans ((Below.refl w3.heap.size w3).drew.trans (hbB.trans (hbA.mono hbB.size))|>.mono hbb.size)).mono hz1)
theorem uq (r:Rec) (w:World) (hroot:r.root.size≤1048576) (hname:r.name.size≤1048576) (hf:Fits r.epoch):
  Calls Tryz.prog 356 #[r.v] w fun e w'=>yS r e∧Below w.heap.size w w':=by
 have hname:r.name.size≤1073741824:=by omega
 cases hok:am r with
 |false=>
  have HK:=Lib.hid hok;clear hok
  go_enter Tryz.func356,Tryz.ntmps356
  go_wp2_with (first
   |((with_reducible refine ag 25 (.tmp 0) r.cells (some 1) ?hgd ?ho ?hd ?hx ?_);(case hgd|ho|hd|hx=>rfl);(intro b w0 l0 B0 e0 z0))
   |((with_reducible refine ar 25 (.tmp 1) b r.cells 25 _ B0 Tryz.underlying25 rfl aI ?hgd ?ho ?hx ?_);(case hgd|ho|hx=>rfl)))
  refine(me r _).mono ?_
  rintro e w1 ⟨rfl,hb1⟩
  rw[HK.out]
  have hbw1:Below w.heap.size w w1:=(e0.mono l0).trans (hb1.mono (by omega))
  clear e0 hb1
  go_wp2_with fail
  go_ret2
  exact⟨.inr ⟨HK.out,rfl⟩,hbw1⟩
 |true=>
  have hpk:=pO hok
  have HK:=Lib.hid hok;clear hok
  go_enter Tryz.func356,Tryz.ntmps356
  go_wp2_with (first
   |((with_reducible refine ag 25 (.tmp 0) r.cells (some 1) ?hgd ?ho ?hd ?hx ?_);(case hgd|ho|hd|hx=>rfl);(intro b w0 l0 B0 e0 z0))
   |((with_reducible refine ar 25 (.tmp 1) b r.cells 25 _ B0 Tryz.underlying25 rfl aI ?hgd ?ho ?hx ?_);(case hgd|ho|hx=>rfl)))
  refine(me r _).mono ?_
  rintro e w1 ⟨rfl,hb1⟩
  rw[HK.out]
  have R1:=(dN.blk B0).below hb1 z0
  have hbw1:Below w.heap.size w w1:=(e0.mono l0).trans (hb1.mono (by omega))
  have hl1:w.heap.size≤b:=l0
  clear e0 hb1 z0 l0 B0
  obtain⟨kind,epoch,time,count,target,till,root,name⟩:=r
  obtain⟨r1,c0,c1,c2,c3,c4,c5,c6,c7⟩:=R1
  have HP:=Lib.hid hpk;clear hpk
  go_wp2_with fail
  refine(Ax _ _ bW [kind,epoch,time,count,target,till] _ (by exact(bc.blk (xs:=bW) (ab.new w1 (bW.map (Value.int .i64)) 3) rfl 6).below ((Below.refl _ _).alloc (Nat.le_refl _) _) (Nat.le_refl _)) (by have:=bc.blk (xs:=[kind,epoch,time,count,target,till]) (ab.new (w1.alloc (.cells #[.int .i64 1, .int .i64 4, .int .i64 8, .int .i64 4, .int .i64 4, .int .i64 8] 3)) [.int .i64 kind, .int .i64 epoch, .int .i64 time, .int .i64 count, .int .i64 target, .int .i64 till] 3) rfl 6;simpa using this) (by simp) (by simp) (by exact HP.out)).mono ?_
  rintro e w3 ⟨q,rfl,tq,hb3⟩
  have hbb:Below w1.heap.size w1 w3:=(((Below.refl w1.heap.size w1).alloc (Nat.le_refl _) _).alloc (by simp) _).trans (hb3.mono (by simp;omega))
  have R3:dN w3 b ⟨kind,epoch,time,count,target,till,root,name⟩:=(dN.mk r1 c0 c1 c2 c3 c4 c5 c6 c7:dN w1 b ⟨kind,epoch,time,count,target,till,root,name⟩).below hbb r1
  obtain⟨r3,s0,s1,s2,s3,s4,s5,s6,s7⟩:=R3
  clear c0 c1 c2 c3 c4 c5 c6 c7 hb3
  clear s0 s1 s2 s3 s4 s5
  have hl32:=(dd HK.out).2.2.2.2.2.2
  have hr32:root.size≤32:=hl32.1
  have hn16:name.size≤16:=hl32.2
  have sq:q.size≤29:=by rw[tq.size];exact Nat.le_of_eq (hZ ⟨kind,epoch,time,count,target,till,root,name⟩)
  clear hl32
  go_wp2_with fail
  go_region_with ((first|(go_at_call_of 302 (Value.string root);refine(iY root _ (by omega)).mono ?_;rintro e wA ⟨x,rfl,tx,hbA⟩;have ltA:b<wA.heap.size:=(by first|exact Nat.lt_of_lt_of_le r3 hbA.size|exact Nat.lt_of_lt_of_le ltB hbA.size);have a6A:=hbA.cell (p:=⟨b,6,none⟩) (by first|exact r3|exact ltB);have a7A:=hbA.cell (p:=⟨b,7,none⟩) (by first|exact r3|exact ltB);have sA:x.size≤36:=(by rw[tx.size,bg];have e:root.data.toList.length=root.size:=rfl;omega))|(go_at_call_of 302 (Value.string name);refine(iY name _ (by omega)).mono ?_;rintro e wB ⟨y,rfl,ty,hbB⟩;have ltB:b<wB.heap.size:=(by first|exact Nat.lt_of_lt_of_le r3 hbB.size|exact Nat.lt_of_lt_of_le ltA hbB.size);have a6B:=hbB.cell (p:=⟨b,6,none⟩) (by first|exact r3|exact ltA);have a7B:=hbB.cell (p:=⟨b,7,none⟩) (by first|exact r3|exact ltA);have sB:y.size≤36:=(by rw[ty.size,bg];have e:name.data.toList.length=name.size:=rfl;omega))))
  all_goals go_wp2_with fail
  all_goals go_ret2
  all_goals refine⟨.inl ⟨HK.out,_,rfl,(tq.append tx).append ty⟩, ?_⟩
  all_goals(have hz3:=hbb.size;have hz1:=hbw1.size)
  all_goals first
   |exact hbw1.trans ((hbb.trans ((Below.refl w3.heap.size w3).drew.trans (hbA.trans (hbB.mono hbA.size))|>.mono hbb.size)).mono hz1)
   |exact hbw1.trans ((hbb.trans ((Below.refl w3.heap.size w3).drew.trans (hbB.trans (hbA.mono hbB.size))|>.mono hbb.size)).mono hz1)
end Go.Proofs.YtgimkmclgjfddaaGreat
