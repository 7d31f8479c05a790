/- The superblock of bytes (chapter 10): Take. The later superblock of two (chapter 10): Choose, where the first place has noughts. What a formatted disk has (chapter 25): found. Open (chapter 25), of a disk that is right. A volume that is none, and its looks; a ring's key (chapter 26). -/
import Derived.Test.YtngiibgdgenidaaGreatQ10
import Derived.Test.YtngiibgdgenidaaGreatQ8
import Derived.Deep.RegionWith
import Derived.Test.YtngiibgdgenidaaGreatQ4
import Derived.Test.YtngiibgdgenidaaGreatQ11
set_option linter.unusedSimpArgs false
set_option linter.unusedVariables false
set_option maxRecDepth 100000
set_option maxHeartbeats 4000000
namespace Go.Proofs.YtngiibgdgenidaaGreat
open Go Go.RowKit
theorem dH (w:World):Sem.run Tryz.prog (zeroValue 174) w= .ok (.agg (aD.zero.cells).toArray) w:=by kernel_rfl
theorem yV {ws:List Nat} {l:List UInt8} {w w':World} {e:Ending} {ns:List Int} (h:ln ws l w w' e) (hu:bn ws l=some ns):∃vo,e= .returned (.tuple #[vo, .int .i64 0])∧w'.ownsRow w.heap.size 3 1 vo ns.length (ns.map (Value.int .i64)):=by
 rcases h with⟨ns',vo,h1,h2,h3,_⟩|⟨h1,_⟩
 ·obtain rfl:ns=ns':=Option.some.inj (hu.symm.trans h1)
  exact⟨vo,h2,h3⟩
 ·rw[hu]at h1;cases h1
def jp (s:aD):List UInt8:=beBytes 8 s.gen.toNat++beBytes 4 s.tail.toNat++beBytes 4 s.epoch.toNat++beBytes 8 s.clock.toNat
theorem kr (s:aD):(jp s).length=24:=by unfold jp;simp[beBytes_length]
theorem pP (s:aD):∃t,eB s=kd++(jp s++(iW s.geo++t)):=by
 refine⟨de (eI s)++List.replicate (4096-(eI s++de (eI s)).length) 0, ?_⟩
 have h:eI s=kd++(jp s++iW s.geo):=by unfold eI jp;simp only[List.append_assoc]
 unfold eB ke
 rw[List.append_assoc]
 conv=>lhs;lhs;rw[h]
 simp only[List.append_assoc]
theorem ue {s:aD} (h:gi s):bn [8,4,4,8] (jp s)=some [s.gen,s.tail,s.epoch,s.clock]:=by
 obtain⟨⟨k1,k2,k3,k4,k5,k6⟩,h1,h2,h3,h4,h5,h6,h7,h8⟩:=h
 have p4:(256:Nat)^4=4294967296:=rfl
 have p8:(256:Nat)^8=18446744073709551616:=rfl
 have e:jp s=beBytes 8 s.gen.toNat++(beBytes 4 s.tail.toNat++(beBytes 4 s.epoch.toNat++(beBytes 8 s.clock.toNat++[]))):=by unfold jp;simp
 rw[e,eo (by decide) (by decide) (by omega) (by omega),eo (by decide) (by decide) (by omega) (by omega),eo (by decide) (by decide) (by omega) (by omega),eo (by decide) (by decide) (by omega) (by omega),pj]
 simp only[Option.map_some]
 rw[show((s.gen.toNat:Nat):Int)=s.gen by omega,show((s.tail.toNat:Nat):Int)=s.tail by omega,show((s.epoch.toNat:Nat):Int)=s.epoch by omega,show((s.clock.toNat:Nat):Int)=s.clock by omega]
theorem AN {block:ByteArray} {s:aD} (ht:ak block (eB s)):block.extract 0 9=⟨#[107,101,101,112,115,97,107,101,49]⟩:=by
 obtain⟨t,h⟩:=pP s
 rw[h]at ht
 exact((ht.extract 0 9).cast (by rw[List.drop_zero,jm (show kd.length=9 from rfl)])).eq (show ak (⟨#[107,101,101,112,115,97,107,101,49]⟩:ByteArray) kd from rfl)
theorem AO {block:ByteArray} {s:aD} (ht:ak block (eB s)):∃t,ak (block.extract 9 4096) (jp s++(iW s.geo++t)):=by
 obtain⟨t,h⟩:=pP s
 have hl:(eB s).length=4096:=lG s
 refine⟨t,(ht.extract 9 4096).cast ?_⟩
 rw[List.take_of_length_le (by rw[hl];exact Nat.le_refl _),h,jn (show kd.length=9 from rfl)]
theorem qP (w:World):
  Calls Tryz.prog 369 #[.string (⟨(List.replicate 4096 0).toArray⟩:ByteArray)] w fun e w'=>e= .returned (.tuple #[aD.zero.v, .int .i64 3])∧Below w.heap.size w w':=by
 obtain⟨z,hz⟩:∃z,(⟨(List.replicate 4096 0).toArray⟩:ByteArray)=z:=⟨_,rfl⟩
 have hsz:z.size=4096:=by rw[←hz];simp[ByteArray.size]
 have hsi:(z.size:Int)=4096:=by omega
 have hm:(z.extract 0 9)≠⟨#[107,101,101,112,115,97,107,101,49]⟩:=by
  intro h
  have h1:=congrArg (fun b:ByteArray=>b.data.toList) h
  have h2:ak (z.extract 0 9) (List.replicate 9 0):=((show ak z (List.replicate 4096 0) by rw[←hz];exact ak.mk _).extract 0 9).cast (by decide)
  rw[show(z.extract 0 9).data.toList= _ from h2]at h1
  exact absurd h1 (by decide)
 have hm2:((z.extract 0 9).toList==([107,101,101,112,115,97,107,101,49]:List UInt8))=false:=by
  rw[beq_eq_false_iff_ne]
  intro h
  refine hm (ByteArray.ext (Array.toList_inj.1 ?_))
  rw[←Lib.toList_data]
  exact h
 rw[hz]
 clear hz hm
 go_enter Tryz.func369,Tryz.ntmps369
 go_wp2_with (first
  |((with_reducible refine af 174 _ dH (some 2) ?hgd ?ho ?hd ?_);(case hgd|ho|hd=>rfl);(intro b2 w1 l1 B1 e1 z1))
  |((with_reducible refine ae 174 (.tmp 2) (.tmp 23) b2 aD.zero.cells aD.zero.cells 174 B1 rfl aZ (dy _) ?hgd ?ho ?hx ?hy ?_);(case hgd|ho|hx|hy=>rfl);(intro w9 B9 o9))
  |fail)
 (try simp only[Exit.inBlock,Exit.then]);refine bodyPost_ret (aL rfl _ _ B9.range rfl Tryz.underlying174 rfl aZ) rfl ⟨rfl,o9.below (e1.mono l1) l1⟩
theorem Ff:(([8,4,4,8]:List Nat).map (fun(a:Nat)=>(a:Int)))=dn:=rfl
theorem uf (s:aD) (block:ByteArray) (w:World) (ht:ak block (eB s)) (hs:gi s):
  Calls Tryz.prog 369 #[.string block] w fun e w'=>e= .returned (.tuple #[s.v, .int .i64 0])∧Below w.heap.size w w':=by
 have hsz:block.size=4096:=by rw[ht.size,lG]
 have hsi:(block.size:Int)=4096:=by omega
 have hm:=AN ht
 have hm2:((block.extract 0 9).toList==([107,101,101,112,115,97,107,101,49]:List UInt8))=true:=by
  rw[hm,Lib.toList_data];decide
 clear hm
 obtain⟨tl,htl⟩:=AO ht
 have HN:=Lib.hid (ue hs)
 have HT:=Lib.hid ht
 have HS:=Lib.hid hs
 obtain⟨rest,eT⟩:∃r,block.extract 9 4096=r:=⟨_,rfl⟩
 rw[eT]at htl
 have hrs:rest.size=4087:=by rw[←eT,ByteArray.size_extract,hsz];decide
 have hrsi:(rest.size:Int)=4087:=by omega
 have ht1:ak (rest.extract 0 24) (jp s):=(htl.extract 0 24).cast (by rw[List.drop_zero,jm (kr s)])
 have ht2:ak (rest.extract 24 36) (iW s.geo):=(htl.extract 24 36).cast (by
  rw[show(36:Nat)=24+12 from rfl,List.drop_take,show 24+12-24=12 from rfl,jn (kr s),jm (gV s.geo)])
 have HT1:=Lib.hid ht1
 have HT2:=Lib.hid ht2
 have HR:=Lib.hid eT
 clear ht hs htl ht1 ht2 eT
 go_enter Tryz.func369,Tryz.ntmps369
 go_wp2_with (first
  |((with_reducible refine af 174 _ dH (some 2) ?hgd ?ho ?hd ?_);(case hgd|ho|hd=>rfl);(intro b2 w1 l1 B1 e1 z1))
  |fail)
 refine(gw _).mono ?_
 rintro e w2 ⟨⟨v2,rfl,hv2⟩,hb2⟩
 have HB2:=Lib.hid (B1.below hb2 z1)
 have HW2:=Lib.hid ((e1.mono l1).trans (hb2.mono (Nat.le_trans l1 (Nat.le_of_lt z1))))
 have HL:=Lib.hid l1
 clear B1 e1 z1 hb2 l1
 obtain⟨g3,o3,c3,rfl,hg3,hc3⟩:=hv2.at (by decide)
 rw[show dn.length=4 from rfl]
 have HC3:=Lib.hid hc3
 clear hc3 hv2
 go_wp2_with fail
 go_loop [4,26] (fun x i=>∃k:Nat,k≤4∧i= .int .i64 k∧x= .int .i64 ((sumTo [8,4,4,8] k:Nat):Int)) (fun _ i=>4-(intOf i).toNat)
 case atStart=>exact⟨0,by omega,rfl,rfl⟩
 case round=>
  obtain⟨k,hk,rfl,rfl⟩:=hrel
  obtain⟨x,hx⟩:∃x,x=sumTo [8,4,4,8] k:=⟨_,rfl⟩
  rw[←hx]
  have hx8:x≤24:=by have:=sumTo_le [8,4,4,8] k;rw[←hx]at this;exact this
  have HX:=Lib.hid hx
  clear hx
  by_cases hlt:k<4
  ·have hlt':(k:Int)<4:=by omega
   have h00:(0:Int)≤(k:Int):=by omega
   obtain⟨a,ha⟩:∃a,([8,4,4,8]:List Nat)[k]?=some a:=⟨_,List.getElem?_eq_getElem (by exact hlt)⟩
   have hca:w2.cell? ⟨g3,o3+k,none⟩=some (.int .i64 (a:Int)):=HC3.out k a (by rw[←Ff,List.getElem?_map,ha];rfl)
   have hsu:=fe ha
   rw[←HX.out]at hsu
   have HSU:=Lib.hid hsu
   have ha8:a≤8:=by
    have:∀(k a:Nat),([8,4,4,8]:List Nat)[k]?=some a→a≤8:=by
     intro k a h
     match k,h with
     |0,h=>simp at h;omega
     |1,h=>simp at h;omega
     |2,h=>simp at h;omega
     |3,h=>simp at h;omega
     |k+4,h=>simp at h
    exact this k a ha
   clear hsu ha
   go_wp2_with fail
   go_round
   case rel=>exact⟨k+1,by omega,by go_num,by rw[HSU.out];go_num⟩
   case measure=>simp[intOf];omega
  ·obtain rfl:k=4:=by omega
   obtain rfl:x=24:=HX.out
   clear HX hx8 hlt
   go_wp2_with fail
   rw[HR.out]
   go_region_with ((first
    |(go_at_call 324;refine(gw _).mono ?_;rintro e wA ⟨⟨vA,rfl,hvA⟩,hbA⟩)
    |(go_at_call 291;refine(lI vA [8,4,4,8] (rest.extract 0 24) _ hvA (by intro k a h;match k,h with|0,h=>simp at h;omega|1,h=>simp at h;omega|2,h=>simp at h;omega|3,h=>simp at h;omega|k+4,h=>simp at h) (by rw[HT1.out.size,kr];rfl) (by decide) (by decide)).mono ?_;rintro e wB ⟨he,hbB⟩;obtain⟨vo,rfl,hown⟩:=yV he (by rw[show(rest.extract 0 24).data.toList= _ from HT1.out];exact HN.out);clear he)
    |fail))
   have hbAB:Below w2.heap.size w2 wB:=((Below.refl w2.heap.size w2).drew.trans hbA).trans (hbB.mono hbA.size)
   have HBB:=Lib.hid (HB2.out.below hbAB HB2.out.lt)
   have HWB:=Lib.hid (HW2.out.trans (hbAB.mono HW2.out.size))
   obtain⟨gr,cap,z,rfl,hcap,hgg,hblk⟩:=dA hown (by simp)
   have HBLK:=Lib.hid hblk
   rw[show[s.gen,s.tail,s.epoch,s.clock].length=4 from rfl]
   clear hbAB hbA hbB hvA hown hcap hgg hblk
   go_wp2_with fail
   refine(tI s.geo (rest.extract 24 36) _ HT2.out HS.out.geo).mono ?_
   rintro e wC ⟨rfl,hbC⟩
   have HBC:=Lib.hid (HBB.out.below hbC HBB.out.lt)
   have HWC:=Lib.hid (HWB.out.trans (hbC.mono HWB.out.size))
   have HLC:=Lib.hid (HBLK.out.below hbC HBLK.out.lt)
   clear hbC
   obtain⟨gen,tail,epoch,clock,⟨blocks,lbas,first⟩⟩:=s
   go_wp2_with (first
    |((with_reducible refine af 31 _ rK (some 10) ?hgd ?ho ?hd ?_);(case hgd|ho|hd=>rfl);(intro b10 wD lD BD eD zD))
    |((with_reducible refine ae 31 (.tmp 10) (.tmp 51) b10 aK.zero.cells (aK.cells ⟨blocks,lbas,first⟩) 31 BD rfl bP (rH _) ?hgd ?ho ?hx ?hy ?_);(case hgd|ho|hx|hy=>rfl);(intro wE BE oE))
    |fail)
   have hbE:Below wC.heap.size wC wE:=oE.below (eD.mono lD) lD
   have HBE:=Lib.hid (HBC.out.below hbE HBC.out.lt)
   have HWE:=Lib.hid (HWC.out.trans (hbE.mono HWC.out.size))
   have hle:=HLC.out.below hbE HLC.out.lt
   have i0:wE.cell? ⟨gr,0,none⟩=some (.int .i64 gen):=hle.cell (i:=0) rfl
   have i1:wE.cell? ⟨gr,1,none⟩=some (.int .i64 tail):=hle.cell (i:=1) rfl
   have i2:wE.cell? ⟨gr,2,none⟩=some (.int .i64 epoch):=hle.cell (i:=2) rfl
   have i3:wE.cell? ⟨gr,3,none⟩=some (.int .i64 clock):=hle.cell (i:=3) rfl
   have j0:wE.cell? ⟨b10,0,none⟩=some (.int .i64 blocks):=BE.cell (i:=0) rfl
   have j1:wE.cell? ⟨b10,1,none⟩=some (.int .i64 lbas):=BE.cell (i:=1) rfl
   have j2:wE.cell? ⟨b10,2,none⟩=some (.int .i64 first):=BE.cell (i:=2) rfl
   have hgD:gr<wE.heap.size:=hle.lt
   have hgE:b10<wE.heap.size:=BE.lt
   clear hbE hle BD eD zD lD oE BE
   go_region_held3 (fun w'=>w'.cell? ⟨gr,0,none⟩=some (.int .i64 gen)∧w'.cell? ⟨gr,1,none⟩=some (.int .i64 tail)∧w'.cell? ⟨gr,2,none⟩=some (.int .i64 epoch)∧w'.cell? ⟨gr,3,none⟩=some (.int .i64 clock)∧w'.cell? ⟨b10,0,none⟩=some (.int .i64 blocks)∧w'.cell? ⟨b10,1,none⟩=some (.int .i64 lbas)∧w'.cell? ⟨b10,2,none⟩=some (.int .i64 first)) (go_keep) (fail)
   all_goals
    have B12:ac (wE.alloc (Obj.cells #[.int .i64 gen, .int .i64 tail, .int .i64 epoch, .int .i64 clock, .int .i64 blocks, .int .i64 lbas, .int .i64 first] 174)).drew wE.heap.size (aD.cells ⟨gen,tail,epoch,clock,⟨blocks,lbas,first⟩⟩) 174:=ac.new wE (aD.cells ⟨gen,tail,epoch,clock,⟨blocks,lbas,first⟩⟩) 174
    have hbF:Below wE.heap.size wE (wE.alloc (Obj.cells #[.int .i64 gen, .int .i64 tail, .int .i64 epoch, .int .i64 clock, .int .i64 blocks, .int .i64 lbas, .int .i64 first] 174)).drew:=((Below.refl _ _).alloc (Nat.le_refl _) _).drew
    obtain⟨wF,hwF⟩:∃W,(wE.alloc (Obj.cells #[.int .i64 gen, .int .i64 tail, .int .i64 epoch, .int .i64 clock, .int .i64 blocks, .int .i64 lbas, .int .i64 first] 174)).drew=W:=⟨_,rfl⟩
    rw[hwF]at B12 hbF ⊢
    have HBF:=Lib.hid (HBE.out.below hbF HBE.out.lt)
    have HWF:=Lib.hid (HWE.out.trans (hbF.mono HWE.out.size))
    have H12:=Lib.hid B12
    clear hwF B12 hbF i0 i1 i2 i3 j0 j1 j2 hgD hgE
    go_wp2_with ((with_reducible refine au 174 (.tmp 12) wE.heap.size (aD.cells ⟨gen,tail,epoch,clock,⟨blocks,lbas,first⟩⟩) 174 _ H12.out Tryz.underlying174 rfl aZ ?hgd ?ho ?hx ?_);(case hgd|ho|hx=>rfl))
    refine(oD ⟨gen,tail,epoch,clock,⟨blocks,lbas,first⟩⟩ _ HS.out).mono ?_
    rintro e wG ⟨r,rfl,tr,hbG⟩
    obtain rfl:r=block:=tr.eq HT.out
    have HBG:=Lib.hid (HBF.out.below hbG HBF.out.lt)
    have HWG:=Lib.hid (HWF.out.trans (hbG.mono HWF.out.size))
    have HG12:=Lib.hid (H12.out.below hbG H12.out.lt)
    clear hbG tr
    go_wp2_with (first
     |((with_reducible refine au 174 (.tmp 12) wE.heap.size (aD.cells ⟨gen,tail,epoch,clock,⟨blocks,lbas,first⟩⟩) 174 _ HG12.out Tryz.underlying174 rfl aZ ?hgd ?ho ?hx ?_);(case hgd|ho|hx=>rfl))
     |((with_reducible refine ae 174 (.tmp 2) (.tmp 87) b2 aD.zero.cells (aD.cells ⟨gen,tail,epoch,clock,⟨blocks,lbas,first⟩⟩) 174 HBG.out rfl aZ (dy _) ?hgd ?ho ?hx ?hy ?_);(case hgd|ho|hx|hy=>rfl);(intro w9 B9 o9))
     |fail)
    (try simp only[Exit.inBlock,Exit.then]);refine bodyPost_ret (aL rfl _ _ B9.range rfl Tryz.underlying174 rfl aZ) rfl ⟨rfl,o9.below HWG.out HL.out⟩
theorem mX {fn:Func} {p u v:Tmp} {ty:TypeId} (h:fn.results=#[.cell p ty, .tmp u, .tmp v]) (tmps:Array Value) (P:Program) (w:World):
  (results fn tmps).run P w=((asAddr (tmps.getD p undef)).run P w).andThen fun a w₁=>((loadVar ty a).run P w₁).andThen fun x w₂=> .ok (.tuple #[x,tmps.getD u undef,tmps.getD v undef]) w₂:=by
 simp only[results,h]
 simp[Sem.run_bind,Result.andThen]
theorem lN {fn:Func} {p u v:Tmp} {ty:TypeId} {cs:List Value} {d:TypeDesc} (h:fn.results=#[.cell p ty, .tmp u, .tmp v]) (tmps:Array Value) (w:World) {b:Nat} (hb:w.rangeAt b 0 cs) (hp:tmps.getD p undef= .pointer (some ⟨b,0,none⟩))
  (hu:Tryz.prog.underlying ty=some d) (hd:d.isRow=true) (hi:(Tryz.prog.info? ty).map (·.size)=some cs.length):
  (results fn tmps).run Tryz.prog w= .ok (.tuple #[.agg cs.toArray,tmps.getD u undef,tmps.getD v undef]) w:=by
 have e:=run_loadVar_mid (P:=Tryz.prog) w b 0 ty cs _ hb hu hd hi
 rw[mX h,hp]
 simp only[asAddr,Sem.run_pure,Result.andThen_ok,e]
theorem qQ (s:aD) (b:ByteArray) (w:World) (hb:ak b (eB s)) (hs:gi s):
  Calls Tryz.prog 327 #[.string (⟨(List.replicate 4096 0).toArray⟩:ByteArray), .string b] w fun e w'=>e= .returned (.tuple #[s.v, .int .i64 1, .int .i64 0])∧Below w.heap.size w w':=by
 go_enter Tryz.func327,Tryz.ntmps327
 go_wp2_with (first
  |((with_reducible refine af 174 _ dH (some 4) ?hgd ?ho ?hd ?_);(case hgd|ho|hd=>rfl);(intro b4 w1 l1 B1 e1 z1))
  |fail)
 refine(qP _).mono ?_
 rintro e w2 ⟨rfl,hb2⟩
 have HB2:=Lib.hid (B1.below hb2 z1)
 have HW2:=Lib.hid ((e1.mono l1).trans (hb2.mono (Nat.le_trans l1 (Nat.le_of_lt z1))))
 have HL:=Lib.hid l1
 clear B1 e1 z1 l1 hb2
 go_wp2_with (first
  |((with_reducible refine af 174 _ dH (some 7) ?hgd ?ho ?hd ?_);(case hgd|ho|hd=>rfl);(intro b7 w3 l3 B3 e3 z3))
  |((with_reducible refine ae 174 (.tmp 7) (.tmp 14) b7 aD.zero.cells aD.zero.cells 174 B3 rfl aZ (dy _) ?hgd ?ho ?hx ?hy ?_);(case hgd|ho|hx|hy=>rfl);(intro w4 B4 o4))
  |fail)
 have hb4:Below w2.heap.size w2 w4:=o4.below (e3.mono l3) l3
 have HB4:=Lib.hid (HB2.out.below hb4 HB2.out.lt)
 have HW4:=Lib.hid (HW2.out.trans (hb4.mono HW2.out.size))
 clear B3 e3 z3 l3 B4 o4 hb4
 refine(uf s b _ hb hs).mono ?_
 rintro e w5 ⟨rfl,hb5⟩
 have HB5:=Lib.hid (HB4.out.below hb5 HB4.out.lt)
 have HW5:=Lib.hid (HW4.out.trans (hb5.mono HW4.out.size))
 clear hb5
 go_wp2_with (first
  |((with_reducible refine af 174 _ dH (some 9) ?hgd ?ho ?hd ?_);(case hgd|ho|hd=>rfl);(intro b9 w6 l6 B6 e6 z6))
  |((with_reducible refine ae 174 (.tmp 9) (.tmp 19) b9 aD.zero.cells s.cells 174 B6 rfl aZ (dy _) ?hgd ?ho ?hx ?hy ?_);(case hgd|ho|hx|hy=>rfl);(intro w7 B7 o7);(have hb7:Below w5.heap.size w5 w7:=o7.below (e6.mono l6) l6);(have B47:=HB5.out.below hb7 HB5.out.lt))
  |((with_reducible refine au 174 (.tmp 9) b9 s.cells 174 _ B7 Tryz.underlying174 rfl aZ ?hgd ?ho ?hx ?_);(case hgd|ho|hx=>rfl))
  |((with_reducible refine ae 174 (.tmp 4) (.tmp 43) b4 aD.zero.cells s.cells 174 B47 rfl aZ (dy _) ?hgd ?ho ?hx ?hy ?_);(case hgd|ho|hx|hy=>rfl);(intro w8 B8 o8))
  |fail)
 (try simp only[Exit.inBlock,Exit.then]);refine bodyPost_ret (lN rfl _ _ B8.range rfl Tryz.underlying174 rfl aZ) rfl ⟨rfl,o8.below (HW5.out.trans (hb7.mono HW5.out.size)) HL.out⟩
theorem DG (w:World):Sem.run Tryz.prog (zeroValue 382) w= .ok (.agg ([.string (⟨#[]⟩:ByteArray), .string (⟨#[]⟩:ByteArray), .string (⟨#[]⟩:ByteArray), .string (⟨#[]⟩:ByteArray)]:List Value).toArray) w:=by kernel_rfl
theorem yW (db:Nat) (d:am) (s:aD) (n:Nat) (key:ByteArray) (w:World) (h:az w db d) (hd:d.down=false) (hc:d.cs.length≤4096) (hb:d.bs.length≤1024) (h4:4≤d.bs.length)
  (hs:gi s) (hn:s.epoch=(n:Int)) (hg:s.geo.blocks=(d.bs.length:Int)) (h0:d.shown 0=(⟨(List.replicate 4096 0).toArray⟩:ByteArray)) (h1:ak (d.shown 1) (eB s)) (hkl:key.size=32) (gd:ak (if n % 2=0 then d.shown 2 else d.shown 3) (fi n key.data.toList)):
  Calls Tryz.prog 259 #[.pointer (some ⟨db,0,none⟩)] w fun e w'=>e= .returned (.tuple #[s.v, .string key, .int .i64 0])∧Below w.heap.size w w':=by
 have HH:=Lib.hid h
 have HD:=Lib.hid hd
 have HC:=Lib.hid hc
 have HB:=Lib.hid hb
 have H4:=Lib.hid h4
 have HS:=Lib.hid hs
 clear h hd hc hb h4 hs
 go_enter Tryz.func259,Tryz.ntmps259
 go_wp2_with (first
  |((with_reducible refine af 174 _ dH (some 2) ?hgd ?ho ?hd ?_);(case hgd|ho|hd=>rfl);(intro b2 w1 l1 B1 e1 z1))
  |((with_reducible refine af 382 _ DG (some 5) ?hgd ?ho ?hd ?_);(case hgd|ho|hd=>rfl);(intro b5 w2 l2 B2 e2 z2))
  |fail)
 have HL2:=Lib.hid l1
 have HL5:=Lib.hid (show w.heap.size≤b5 from Nat.le_trans l1 (Nat.le_of_lt (Nat.lt_of_lt_of_le z1 l2)))
 have HN5:=Lib.hid (show b2≠b5 by omega)
 have hbel:=(e1.mono l1).trans (e2.mono HL5.out)
 have hB1:=B1.below e2 (Nat.lt_of_lt_of_le z1 l2)
 clear e1 e2 z1 z2 l1 l2 B1
 go_loopw [13] (fun v wr=>∃k:Nat,k≤4∧v= .int .i64 k∧((k=0→ac wr b5 [.string (⟨#[]⟩:ByteArray), .string (⟨#[]⟩:ByteArray), .string (⟨#[]⟩:ByteArray), .string (⟨#[]⟩:ByteArray)] 382)∧(k=1→ac wr b5 [.string (d.shown 0), .string (⟨#[]⟩:ByteArray), .string (⟨#[]⟩:ByteArray), .string (⟨#[]⟩:ByteArray)] 382)∧(k=2→ac wr b5 [.string (d.shown 0), .string (d.shown 1), .string (⟨#[]⟩:ByteArray), .string (⟨#[]⟩:ByteArray)] 382)∧(k=3→ac wr b5 [.string (d.shown 0), .string (d.shown 1), .string (d.shown 2), .string (⟨#[]⟩:ByteArray)] 382)∧(k=4→ac wr b5 [.string (d.shown 0), .string (d.shown 1), .string (d.shown 2), .string (d.shown 3)] 382))∧ac wr b2 aD.zero.cells 174∧Below w.heap.size w wr) (fun v _=>4-(intOf v).toNat)
 case atStart=>exact⟨0,by omega,rfl,⟨fun _=>B2,fun h=>(by cases h),fun h=>(by cases h),fun h=>(by cases h),fun h=>(by cases h)⟩,hB1,hbel⟩
 case round=>
  clear B2 hB1 hbel
  obtain⟨k,hk,rfl,hsg,hb2,hbel⟩:=hrel
  have HSG:=Lib.hid hsg
  have HB2:=Lib.hid hb2
  have HBE:=Lib.hid hbel
  have HDr:=Lib.hid (HH.out.below hbel)
  clear hsg hb2 hbel
  match k,hk with
  |0,hk=>
   have hB:=HSG.out.1 (by trivial)
   have g0:=hB.cell (i:=0) rfl
   have f0:=hB.free 0
   go_wp2_with fail
   refine(ff db d _ HDr.out HD.out 0 (by have:=H4.out;omega) HC.out HB.out).mono ?_
   rintro e w' ⟨rfl,rfl⟩
   obtain⟨sh,hsh⟩:∃s,d.shown ((0:Nat):Int)=s:=⟨_,rfl⟩
   rw[hsh]
   go_wp2_with fail
   have hB2:=hB.set 0 (.string sh)
   have hB2':=hB2.ext (show _=[.string (d.shown 0), .string (⟨#[]⟩:ByteArray), .string (⟨#[]⟩:ByteArray), .string (⟨#[]⟩:ByteArray)] by rw[←hsh];rfl)
   have hbe:=HBE.out.setCell (p:=⟨b5,0,none⟩) (by exact HL5.out) (.string sh)
   have h22:=HB2.out.set_other (a:=⟨b5,0,none⟩) HN5.out (.string sh)
   go_roundw
   case rel=>exact⟨1,by omega,rfl,⟨fun h=>(by cases h),fun _=>hB2',fun h=>(by cases h),fun h=>(by cases h),fun h=>(by cases h)⟩,h22,hbe⟩
   case measure=>simp[intOf]
  |1,hk=>
   have hB:=HSG.out.2.1 (by trivial)
   have g1:=hB.cell (i:=1) rfl
   have f1:=hB.free 1
   go_wp2_with fail
   refine(ff db d _ HDr.out HD.out 1 (by have:=H4.out;omega) HC.out HB.out).mono ?_
   rintro e w' ⟨rfl,rfl⟩
   obtain⟨sh,hsh⟩:∃s,d.shown ((1:Nat):Int)=s:=⟨_,rfl⟩
   rw[hsh]
   go_wp2_with fail
   have hB2:=hB.set 1 (.string sh)
   have hB2':=hB2.ext (show _=[.string (d.shown 0), .string (d.shown 1), .string (⟨#[]⟩:ByteArray), .string (⟨#[]⟩:ByteArray)] by rw[←hsh];rfl)
   have hbe:=HBE.out.setCell (p:=⟨b5,1,none⟩) (by exact HL5.out) (.string sh)
   have h22:=HB2.out.set_other (a:=⟨b5,1,none⟩) HN5.out (.string sh)
   go_roundw
   case rel=>exact⟨2,by omega,rfl,⟨fun h=>(by cases h),fun h=>(by cases h),fun _=>hB2',fun h=>(by cases h),fun h=>(by cases h)⟩,h22,hbe⟩
   case measure=>simp[intOf]
  |2,hk=>
   have hB:=HSG.out.2.2.1 (by trivial)
   have g2:=hB.cell (i:=2) rfl
   have f2:=hB.free 2
   go_wp2_with fail
   refine(ff db d _ HDr.out HD.out 2 (by have:=H4.out;omega) HC.out HB.out).mono ?_
   rintro e w' ⟨rfl,rfl⟩
   obtain⟨sh,hsh⟩:∃s,d.shown ((2:Nat):Int)=s:=⟨_,rfl⟩
   rw[hsh]
   go_wp2_with fail
   have hB2:=hB.set 2 (.string sh)
   have hB2':=hB2.ext (show _=[.string (d.shown 0), .string (d.shown 1), .string (d.shown 2), .string (⟨#[]⟩:ByteArray)] by rw[←hsh];rfl)
   have hbe:=HBE.out.setCell (p:=⟨b5,2,none⟩) (by exact HL5.out) (.string sh)
   have h22:=HB2.out.set_other (a:=⟨b5,2,none⟩) HN5.out (.string sh)
   go_roundw
   case rel=>exact⟨3,by omega,rfl,⟨fun h=>(by cases h),fun h=>(by cases h),fun h=>(by cases h),fun _=>hB2',fun h=>(by cases h)⟩,h22,hbe⟩
   case measure=>simp[intOf]
  |3,hk=>
   have hB:=HSG.out.2.2.2.1 (by trivial)
   have g3:=hB.cell (i:=3) rfl
   have f3:=hB.free 3
   go_wp2_with fail
   refine(ff db d _ HDr.out HD.out 3 (by have:=H4.out;omega) HC.out HB.out).mono ?_
   rintro e w' ⟨rfl,rfl⟩
   obtain⟨sh,hsh⟩:∃s,d.shown ((3:Nat):Int)=s:=⟨_,rfl⟩
   rw[hsh]
   go_wp2_with fail
   have hB2:=hB.set 3 (.string sh)
   have hB2':=hB2.ext (show _=[.string (d.shown 0), .string (d.shown 1), .string (d.shown 2), .string (d.shown 3)] by rw[←hsh];rfl)
   have hbe:=HBE.out.setCell (p:=⟨b5,3,none⟩) (by exact HL5.out) (.string sh)
   have h22:=HB2.out.set_other (a:=⟨b5,3,none⟩) HN5.out (.string sh)
   go_roundw
   case rel=>exact⟨4,by omega,rfl,⟨fun h=>(by cases h),fun h=>(by cases h),fun h=>(by cases h),fun h=>(by cases h),fun _=>hB2'⟩,h22,hbe⟩
   case measure=>simp[intOf]
  |4,hk=>
   have hB:=HSG.out.2.2.2.2 (by trivial)
   obtain⟨nb,hnb⟩:∃nb,(⟨(List.replicate 4096 0).toArray⟩:ByteArray)=nb:=⟨_,rfl⟩
   have hch:∀wx:World,Calls Tryz.prog 327 #[.string nb, .string (d.shown 1)] wx fun e w'=>e= .returned (.tuple #[s.v, .int .i64 1, .int .i64 0])∧Below wx.heap.size wx w':=fun wx=>by rw[←hnb];exact qQ s (d.shown 1) wx h1 HS.out
   have g0:=hB.cell (i:=0) rfl
   rw[h0,hnb]at g0
   have g1:=hB.cell (i:=1) rfl
   have HHB:=Lib.hid hB
   have HCH:=Lib.hid hch
   clear hB hch hnb h0 h1
   go_wp2_with fail
   refine(HCH.out _).mono ?_
   rintro e w4 ⟨rfl,hb4⟩
   have HB4:=Lib.hid (HHB.out.below hb4 HHB.out.lt)
   have HR4:=Lib.hid (HB2.out.below hb4 HB2.out.lt)
   have HD4:=Lib.hid (HDr.out.below hb4)
   have HBE4:=Lib.hid (HBE.out.trans (hb4.mono HBE.out.size))
   clear hb4 g0 g1
   go_wp2_with (first
    |((with_reducible refine af 174 _ dH (some 9) ?hgd ?ho ?hd ?_);(case hgd|ho|hd=>rfl);(intro b9 w6 l6 B6 e6 z6))
    |((with_reducible refine ae 174 (.tmp 9) (.tmp 36) b9 aD.zero.cells s.cells 174 B6 rfl aZ (dy _) ?hgd ?ho ?hx ?hy ?_);(case hgd|ho|hx|hy=>rfl);(intro w7 B7 o7))
    |fail)
   have hb7:Below w4.heap.size w4 w7:=o7.below (e6.mono l6) l6
   have HBX:=Lib.hid (HB4.out.below hb7 HB4.out.lt)
   have HRX:=Lib.hid (HR4.out.below hb7 HR4.out.lt)
   have HDX:=Lib.hid (HD4.out.below hb7)
   have HBEX:=Lib.hid (HBE4.out.trans (hb7.mono HBE4.out.size))
   have HSX:=Lib.hid B7
   have HGG:=Lib.hid hg
   clear hb7 B6 e6 l6 z6 o7 B7 hg
   refine wp_region_held_drew (S:=fun wx=>wx.cell? ⟨b9,4,none⟩=some (.int .i64 s.geo.blocks)) (by kernel_rfl) (HSX.out.drew.cell (i:=4) rfl) (fun hHeld=> ?_)
   refine hp 0 ?_
   refine hp 1 ?_
   refine hp 2 ?_
   refine hp 3 ?_
   refine wpAnyH_ready (rs:=[4]) (by kernel_rfl) (by simp) ?_
   refine AllReadyH.cons rfl (fun K hK=> ?_) AllReadyH.nil
   go_simp
   refine(mL db d _ (HDX.out.below (Below.refl _ _).drew)).mono ?_
   rintro e w' ⟨rfl,rfl⟩
   rw[←HGG.out]
   (try go_wp2_with fail)
   refine hK.out _ _ (HSX.out.drew.cell (i:=4) rfl) (fun hHeld2=> ?_)
   clear hK K hHeld
   have hHeld:=hHeld2
   clear hHeld2
   (try go_frame)
   refine hp 5 ?_
   refine wpAnyH_done (by kernel_rfl) ?_ _
   have HBEY:=Lib.hid (HBEX.out.drew)
   have x2:=HBX.out.drew.cell (i:=2) rfl
   have x3:=HBX.out.drew.cell (i:=3) rfl
   have y2:=HSX.out.drew.cell (i:=2) rfl
   rw[hn]at y2
   have HSY:=Lib.hid HSX.out.drew
   have HRY:=Lib.hid HRX.out.drew
   obtain⟨wy,hwy⟩:∃wy,w7.drew=wy:=⟨_,rfl⟩
   rw[hwy]at HBEY x2 x3 y2 HSY HRY ⊢
   clear hwy
   go_wp2_with fail
   refine(qO n key (d.shown 2) (d.shown 3) _ (by have:=HS.out.e1;omega) hkl gd).mono ?_
   rintro e w8 ⟨rfl,hb8⟩
   have HS8:=Lib.hid (HSY.out.below hb8 HSY.out.lt)
   have HR8:=Lib.hid (HRY.out.below hb8 HRY.out.lt)
   have HBE8:=Lib.hid (HBEY.out.trans (hb8.mono HBEY.out.size))
   clear hb8 x2 x3 y2
   go_wp2_with (first
    |((with_reducible refine au 174 (.tmp 9) b9 s.cells 174 _ HS8.out Tryz.underlying174 rfl aZ ?hgd ?ho ?hx ?_);(case hgd|ho|hx=>rfl))
    |((with_reducible refine ae 174 (.tmp 2) (.tmp 60) b2 aD.zero.cells s.cells 174 HR8.out rfl aZ (dy _) ?hgd ?ho ?hx ?hy ?_);(case hgd|ho|hx|hy=>rfl);(intro w9 B9 o9))
    |fail)
   (try simp only[Exit.inBlock,Exit.then]);refine bodyPost_ret (lN rfl _ _ B9.range rfl Tryz.underlying174 rfl aZ) rfl ⟨rfl,o9.below HBE8.out HL2.out⟩
theorem ug {fn:Func} {t u v x:Tmp} (h:fn.results=#[.tmp t, .tmp u, .tmp v, .tmp x]) (tmps:Array Value) (P:Program) (w:World):
  (results fn tmps).run P w= .ok (.tuple #[tmps.getD t undef,tmps.getD u undef,tmps.getD v undef,tmps.getD x undef]) w:=by
 simp[results,h,Sem.run_bind]
def tailV (d:am) (k:Nat):List ByteArray:=(List.range k).map fun(i:Nat)=>d.shown (4+(i:Int))
theorem yX (d:am) (k:Nat):tailV d (k+1)=tailV d k++[d.shown (4+(k:Int))]:=by simp[tailV,List.range_succ]
theorem AP (db n t ep:Nat) (gen clock lbas first:Int) (key:ByteArray) (d:am) (w:World) (h:az w db d) (hso:gi (⟨gen,(t:Int),(ep:Int),clock,⟨(n:Int),lbas,first⟩⟩:aD))
  (hd:d.down=false) (hc:d.cs.length≤4096) (hb:d.bs.length≤1024) (hn:d.bs.length=n) (hsh:∀i,4+t≤i→i<n→d.shown i=(⟨(List.replicate 4096 0).toArray⟩:ByteArray)) (bE:(if ep % 2=0 then d.shown 3 else d.shown 2)=(⟨(List.replicate 4096 0).toArray⟩:ByteArray))
  (hF:∀wx,az wx db d→Calls Tryz.prog 259 #[.pointer (some ⟨db,0,none⟩)] wx fun e w'=>e= .returned (.tuple #[(⟨gen,(t:Int),(ep:Int),clock,⟨(n:Int),lbas,first⟩⟩:aD).v, .string key, .int .i64 0])∧Below wx.heap.size wx w'):
  Calls Tryz.prog 159 #[.pointer (some ⟨db,0,none⟩)] w fun e w'=>(∃jb sb lv,e= .returned (.tuple #[.pointer (some ⟨jb,0,none⟩),lv, .string key, .int .i64 0])∧ac w' jb (bK (.pointer (some ⟨sb,0,none⟩)) db (⟨gen,(t:Int),(ep:Int),clock,⟨(n:Int),lbas,first⟩⟩:aD)) 176∧ac w' sb (ct ⟨(n:Int),lbas,first⟩ (t:Int)) 269∧w'.ownsRow w.heap.size 9 1 lv t ((tailV d t).map .string)∧w.heap.size≤sb∧sb<jb)∧Below w.heap.size w w':=by
 obtain⟨i0,hi,hz0,hz1,hz2⟩:=info_parts pN
 have hn0:(d.bs.length:Int)=(n:Int):=by omega
 have hnz:decide ((n:Int)=0)=false:=by have:=hso.geo.b0;simp only at this;exact decide_eq_false (by omega)
 have hnz2:((n:Int)==0)=false:=by have:=hso.geo.b0;simp only at this;exact beq_eq_false_iff_ne.2 (by omega)
 obtain⟨s,Hs⟩:∃s,Hid (s=(⟨gen,(t:Int),(ep:Int),clock,⟨(n:Int),lbas,first⟩⟩:aD)):=⟨_,rfl⟩
 have HST0:=Lib.hid (show s.tail=(t:Int) by rw[Hs.out])
 have HSG:=Lib.hid (show s.geo=(⟨(n:Int),lbas,first⟩:aK) by rw[Hs.out])
 rw[←Hs.out]at hF
 have HN0:=Lib.hid hn0
 have HHw:=Lib.hid h
 have HSO:=Lib.hid hso
 have HD:=Lib.hid hd
 have HC:=Lib.hid hc
 have HB:=Lib.hid hb
 have HN:=Lib.hid hn
 have HSH:=Lib.hid hsh
 have HST:=Lib.hid bE
 have HFW:=Lib.hid hF
 have HT:=Lib.hid (show 4+t≤n from by have:=hso.t1;simp only at this;omega)
 have HN1:=Lib.hid (show n≤1024 from by omega)
 clear h hso hd hc hb hn hsh bE hF hn0
 go_enter Tryz.func159,Tryz.ntmps159
 go_wp2_with fail
 refine(mL db d _ HHw.out).mono ?_
 rintro e w' ⟨rfl,rfl⟩
 rw[HN0.out]
 go_wp2_with fail
 refine(qK db d _ HHw.out).mono ?_
 rintro e w' ⟨rfl,rfl⟩
 rw[HD.out]
 go_wp2_with fail
 refine(HFW.out _ HHw.out).mono ?_
 rintro e w1 ⟨rfl,hb1⟩
 have HBE1:=Lib.hid hb1
 have HD1:=Lib.hid (HHw.out.below hb1)
 clear hb1
 go_wp2_with (first
  |((with_reducible refine af 174 _ dH (some 6) ?hgd ?ho ?hd ?_);(case hgd|ho|hd=>rfl);(intro b6 w2 l2 B2 e2 z2))
  |((with_reducible refine ae 174 (.tmp 6) (.tmp 27) b6 aD.zero.cells s.cells 174 B2 rfl aZ (dy _) ?hgd ?ho ?hx ?hy ?_);(case hgd|ho|hx|hy=>rfl);(intro w3 B3 o3);(have q1:=B3.cell (i:=1) rfl))
  |((with_reducible refine ag 31 (.tmp 34) b6 4 s.geo.cells _ (some 35) (lM B3) Tryz.underlying31 rfl bP ?hg ?ho ?hds ?hx ?_);(case ho|hg|hds|hx=>rfl))
  |fail)
 refine(tK s.geo s.tail _ (by rw[HSG.out];exact HSO.out.geo) (by rw[HST0.out];omega) (by have:=HT.out;rw[HST0.out,HSG.out];show(t:Int)≤(n:Int)-4;omega)).mono ?_
 rintro e w4 ⟨⟨sb,rfl,Bs,ls⟩,hb4⟩
 have hb3:Below w1.heap.size w1 w3:=o3.below (e2.mono l2) l2
 have hw1:=HBE1.out.size
 have hb34:=hb3.trans (hb4.mono hb3.size)
 have HLS:=Lib.hid (show w.heap.size≤sb from Nat.le_trans hw1 (Nat.le_trans hb3.size ls))
 have HL6:=Lib.hid (show w.heap.size≤b6 from Nat.le_trans hw1 l2)
 have HB6:=Lib.hid (B3.below hb4 B3.lt)
 have HBS:=Lib.hid Bs
 have HD4:=Lib.hid (HD1.out.below hb34)
 have HBE4:=Lib.hid (HBE1.out.trans (hb34.mono hw1))
 clear q1 B2 B3 o3 e2 z2 l2 Bs ls hb4 hb3 hb34 hw1
 go_wp2_with (first
  |((with_reducible refine au 174 (.tmp 6) b6 s.cells 174 _ HB6.out Tryz.underlying174 rfl aZ ?hgd ?ho ?hx ?_);(case hgd|ho|hx=>rfl))
  |((with_reducible refine ao 176 ?parts (bK (.pointer (some ⟨sb,0,none⟩)) db s) ?hg ?ho ?hf ?_);(case hg|ho=>rfl);(case hf=>(obtain⟨gen,tail,epoch,clock,⟨blocks,lbas,first⟩⟩:=s;kernel_rfl)))
  |((with_reducible refine ai 176 (.tmp 44) (bK (.pointer (some ⟨sb,0,none⟩)) db s) (some 45) ?hgd ?ho ?hd ?hx ?_);(case hgd|ho|hd|hx=>rfl);(intro jb w5 l5 B5 e5 z5))
  |fail)
 have hb5:Below w4.heap.size w4 w5:=e5.mono l5
 have hw4:=HBE4.out.size
 have HSJ:=Lib.hid (show sb<jb from Nat.lt_of_lt_of_le HBS.out.lt l5)
 have HJ5:=Lib.hid B5
 have HS5:=Lib.hid (HBS.out.below hb5 HBS.out.lt)
 have HB65:=Lib.hid (HB6.out.below hb5 HB6.out.lt)
 have HD5:=Lib.hid (HD4.out.below hb5)
 have HBE5:=Lib.hid (HBE4.out.trans (hb5.mono hw4))
 clear B5 e5 z5 l5 hb5 hw4
 refine(wN jb db n t ep (.pointer (some ⟨sb,0,none⟩)) gen clock lbas first d _ HD5.out (by rw[←Hs.out];exact HJ5.out) HSO.out.geo HD.out HC.out HB.out HN.out (by have:=HSO.out.e1;simp only at this;omega) HT.out HSH.out HST.out).mono ?_
 rintro e w6 ⟨rfl,hb6⟩
 have hw5:=HBE5.out.size
 have HJ6:=Lib.hid (HJ5.out.below hb6 HJ5.out.lt)
 have HS6:=Lib.hid (HS5.out.below hb6 HS5.out.lt)
 have HB66:=Lib.hid (HB65.out.below hb6 HB65.out.lt)
 have HD6:=Lib.hid (HD5.out.below hb6)
 have HBE6:=Lib.hid (HBE5.out.trans (hb6.mono hw5))
 have q1:w6.cell? ⟨b6,1,none⟩=some (.int .i64 (t:Int)):=by rw[←HST0.out];exact HB66.out.cell (i:=1) rfl
 clear hb6 hw5
 go_wp2_with fail
 clear q1
 go_loopw [13,53] (fun lv v wr=>∃k:Nat,k≤t∧v= .int .i64 k∧wr.ownsRow w6.heap.size 9 1 lv k ((tailV d k).map .string)∧Below w6.heap.size w6 wr) (fun _ v _=>t-(intOf v).toNat)
 case atStart=>exact⟨0,Nat.zero_le _,rfl,World.ownsRow_nil _ _ _ _,Below.refl _ _⟩
 case round=>
  obtain⟨k,hk,rfl,hown,hbel⟩:=hrel
  obtain⟨lp,lc,rfl⟩:=aQ hown
  have HOWN:=Lib.hid hown
  have HBEL:=Lib.hid hbel
  have HJr:=Lib.hid (HJ6.out.below hbel HJ6.out.lt)
  have HDr:=Lib.hid (HD6.out.below hbel)
  clear hown hbel
  by_cases hlt:k<t
  ·have hlt':(k:Int)<(t:Int):=by omega
   have hk9:k≤1024:=by have:=HN1.out;have:=HT.out;omega
   go_wp2_with fail
   refine(mi jb db (.pointer (some ⟨sb,0,none⟩)) (⟨gen,(t:Int),(ep:Int),clock,⟨(n:Int),lbas,first⟩⟩:aD) (k:Int) _ (by rw[←Hs.out];exact HJr.out) HSO.out.geo (by omega) (by have:=HT.out;show(k:Int)<(n:Int)-4;omega)).mono ?_
   rintro e wa ⟨rfl,hba⟩
   have HDa:=Lib.hid (HDr.out.below hba)
   have HOWNa:=Lib.hid (own_below hba HOWN.out)
   have HBELa:=Lib.hid (HBEL.out.trans (hba.mono HBEL.out.size))
   clear hba
   obtain⟨m,hm⟩:∃m,4+k=m:=⟨_,rfl⟩
   have e4:(4+(k:Int))=(m:Int):=by omega
   rw[e4]
   have HM:=Lib.hid hm
   have HE4:=Lib.hid e4
   clear hm e4
   go_wp2_with fail
   refine(ff db d _ HDa.out HD.out m (by have:=HT.out;have:=HN.out;have:=HM.out;omega) HC.out HB.out).mono ?_
   rintro e w' ⟨rfl,rfl⟩
   obtain⟨sh,hsh⟩:∃s,d.shown (m:Int)=s:=⟨_,rfl⟩
   rw[hsh]
   have HSHk:=Lib.hid hsh
   clear hsh
   have own1:=HOWNa.out
   go_wp2_with (first
    |((with_reducible refine bD 64 9 1 ?parts66 [.string sh] (.string ⟨#[]⟩) 1 16 (some 66) Tryz.underlying64 pN (by omega) (by omega) ?hgd ?ho ?hd ?hf ?_);(case hgd|ho|hd=>rfl);(case hf=>kernel_rfl);(intro g2 w7 l7 B7 e7 z7);(have own2:=own_below (e7.mono l7) own1))
    |(at_builtin;refine kF _ _ 64 rfl rfl i0 (.string ⟨#[]⟩) 16 Tryz.underlying64 hi hz0 hz1 hz2 rfl (by decide) rfl own2 ⟨g2,0,none⟩ 1 1 [.string sh] rfl rfl (cj B7) (by intro v hv;simp at hv;subst hv;rfl) (by unfold maxLen;omega) (by omega) (by have:=HBELa.out.size;have:=z7;omega) ?_;intro v' w8 own3 grow3 near3)
    |fail)
   have hbz:Below w6.heap.size w6 w7:=HBELa.out.trans ((e7.mono l7).mono HBELa.out.size)
   have HBEz:=Lib.hid (hbz.grown grow3 hbz.size (fun j hj=>(own2.lt j hj).1))
   have HOWNz:=Lib.hid own3
   clear hbz grow3 near3 own3 own2 own1 B7 e7 z7 l7
   go_roundw
   case rel=>exact⟨k+1,by omega,by go_num,by rw[yX,List.map_append];rw[show d.shown (4+(k:Int))=sh by rw[HE4.out];exact HSHk.out];exact HOWNz.out,HBEz.out⟩
   case measure=>simp[intOf];omega
  ·obtain rfl:k=t:=by omega
   go_wp2_with fail
   (try simp only[Exit.inBlock,Exit.then]);refine bodyPost_ret (ug rfl _ _ _) rfl ⟨⟨jb,sb,_,rfl,by rw[←Hs.out];exact HJr.out,by rw[←HSG.out,←HST0.out];exact HS6.out.below HBEL.out HS6.out.lt,own_base HOWN.out HBE6.out.size,HLS.out,HSJ.out⟩,HBE6.out.trans (HBEL.out.mono HBE6.out.size)⟩
def Fg:List Value:=[.pointer none, .string ⟨#[]⟩, .string ⟨#[]⟩, .pointer none, .slice none 0 0, .pointer none, .pointer none, .pointer none]
def qR (w:World) (v:Value):Prop:=v= .pointer none∨∃vb,v= .pointer (some ⟨vb,0,none⟩)∧ac w vb Fg 156
theorem qR.below {w w':World} {v:Value} (h:qR w v) (hb:Below w.heap.size w w'):qR w' v:=
 h.imp id fun⟨vb,h1,h2⟩=>⟨vb,h1,h2.below hb h2.lt⟩
end Go.Proofs.YtngiibgdgenidaaGreat
