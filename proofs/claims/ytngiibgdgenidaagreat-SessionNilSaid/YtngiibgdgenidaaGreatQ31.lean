/- Walk of wire.read (chapter 27): the message that bytes are read as; what is read too far is a panic, that is recovered. Walk of wire.Take (chapter 27): the message of bytes. -/
import Derived.Test.YtngiibgdgenidaaGreatQ25
import Derived.Defers
import Derived.Recover
import Derived.Deep.RegionHeld3
import Derived.Deep.MidRow
import Derived.Test.YtngiibgdgenidaaGreatQ4
import Derived.Test.YtngiibgdgenidaaGreatQ24
set_option linter.unusedSimpArgs false
set_option linter.unusedVariables false
set_option maxRecDepth 100000
set_option maxHeartbeats 4000000
namespace Go.Proofs.YtngiibgdgenidaaGreat
open Go Go.RowKit
theorem lZ:(Tryz.prog.info? 73).map (·.size)=some bJ.length:=by kernel_rfl
theorem iI:∀v∈bJ,v.oneCell'=true:=by decide
theorem nB (bm bo:Nat) (cs:List Value) (x:Bool) (w:World) (hl:cs.length=41) (HM:ac w bm cs 73) (HO:ac w bo [.bool x] 4) (hne:bm≠bo):
  CallsD Tryz.prog 123 #[.pointer (some ⟨bm,0,none⟩), .pointer (some ⟨bo,0,none⟩)] (.panicking jI) w fun e u' w'=>
   e= .returned (.tuple #[])∧u'= .panicking [{v:= .iface 350 (.agg #[]),recovered:=true}]∧ac w' bm bJ 73∧ac w' bo [.bool false] 4∧ab [bm,bo] w w':=by
 have hl2:bJ.length=cs.length:=by rw[hl];rfl
 refine callsD_of_wpS Tryz.func123 rfl fun c₀ cs' hu=> ?_
 apply wpS_seq
 apply wpS_region
 simp[wpOpsS,go_sem,recoverD,hu,jI,Tryz.ntmps123,Exit.thenS]
 apply wpS_seq
 apply wpS_region
 simp[wpOpsS,go_sem,Exit.thenS]
 refine wpS_cond (t:=true) (by simp[Act.eval,Array.replicate]) ?_
 simp only[if_true]
 refine wpS_of_wp ?_
 go_wp2_with (first
  |((with_reducible refine ao 73 ?parts bJ ?hg ?ho ?hf ?_);(case hg|ho=>rfl);(case hf=>kernel_rfl))
  |((with_reducible refine ae 73 (.tmp 0) (.tmp 6) bm cs bJ 73 HM hl2 lZ iI ?hgd ?ho ?hx ?hy ?_);(case hgd|ho|hx|hy=>rfl);(intro w1 B1 o1);have O1:=o1.blk HO hne.symm)
  |((with_reducible refine aj 4 (.tmp 1) (.const (.bool false)) bo 0 (.bool false) _ _ O1 (by simp) (by kernel_rfl) rfl ?hgd ?ho ?hx ?hy ?_);(case hgd|ho|hx|hy=>rfl);(intro w2 B2 o2);have M2:=o2.blk B1 hne)
  |fail)
 simp[bodyPostS,results,Tryz.results123]
 exact⟨M2,B2,only2 o1 o2⟩
theorem vE (bm bo:Nat) (w:World):
  CallsD Tryz.prog 123 #[.pointer (some ⟨bm,0,none⟩), .pointer (some ⟨bo,0,none⟩)] .returning w fun e u' w'=>e= .returned (.tuple #[])∧u'= .returning∧w'=w:=by
 refine callsD_of_wpS Tryz.func123 rfl fun c₀ cs' hu=> ?_
 apply wpS_seq
 apply wpS_region
 simp[wpOpsS,go_sem,recoverD,hu,Tryz.ntmps123,Exit.thenS]
 apply wpS_seq
 apply wpS_region
 simp[wpOpsS,go_sem,Exit.thenS]
 refine wpS_cond (t:=false) (by simp[Act.eval,Array.replicate]) ?_
 simp only[Bool.false_eq_true,if_false]
 refine wpS_of_wp (wp_skip ?_)
 cases c₀
 simp_all [bodyPostS,results,Tryz.results123]
def Gh (F:List Nat) (s:List UInt8) (e:Ending) (w':World):Prop:=
 (∃m u l,gJ s=some (m,[])∧e= .returned (.tuple #[m.v u l, .bool true])∧aC F w' u m.told.up∧aC F w' l m.told.left)∨
 (∃cs,(∀m,gJ s≠some (m,[]))∧e= .returned (.tuple #[.agg cs, .bool false])∧cs.size=41∧∀v∈cs.toList,v.oneCell'=true)
theorem ab.trans' {S T:List Nat} {u v w:World} (h:ab S u v) (k:ab T v w):ab (S++T) u w:=(h.mono (fun x hx=>List.mem_append_left _ hx)).trans (k.mono (fun x hx=>List.mem_append_right _ hx))
theorem mE {fn:Func} {p q:Tmp} (h:fn.results=#[.cell p 73, .cell q 4]) (tmps:Array Value) (w:World) {bm bo:Nat} {cs:List Value} {x:Bool} (hM:ac w bm cs 73) (hO:ac w bo [.bool x] 4)
  (hl:some 41=some cs.length) (hp:tmps.getD p undef= .pointer (some ⟨bm,0,none⟩)) (hq:tmps.getD q undef= .pointer (some ⟨bo,0,none⟩)):
  (results fn tmps).run Tryz.prog w= .ok (.tuple #[.agg cs.toArray, .bool x]) w:=by
 have hi:(Tryz.prog.info? 73).map (·.size)=some cs.length:=by rw[←hl];kernel_rfl
 have e:=run_loadVar_mid (P:=Tryz.prog) w bm 0 73 cs _ hM.range Tryz.underlying73 rfl hi
 have c0:=hO.cell (i:=0) rfl
 have e2:(loadVar 4 ⟨bo,0,none⟩).run Tryz.prog w= .ok (.bool x) w:=by
  simp[go_sem,loadVar,Tryz.underlying4,c0]
 have e0:(results fn tmps).run Tryz.prog w=((asAddr (tmps.getD p undef)).run Tryz.prog w).andThen fun a w₁=>((loadVar 73 a).run Tryz.prog w₁).andThen fun y w₂=>((asAddr (tmps.getD q undef)).run Tryz.prog w₂).andThen fun a' w₃=>((loadVar 4 a').run Tryz.prog w₃).andThen fun z w₄=> .ok (.tuple #[y,z]) w₄:=by
  simp only[results,h]
  simp[Sem.run_bind]
 rw[e0,hp,hq]
 simp only[asAddr,Sem.run_pure,Result.andThen_ok,e,e2]
theorem CV (F:List Nat) (s:ByteArray) (w:World) (hs:s.size≤1000000) (hF:∀x∈F,x<w.heap.size):
  Calls Tryz.prog 66 #[.string s] w fun e w'=>Gh F s.data.toList e w'∧Below w.heap.size w w':=by
 have HFF:=Lib.hid hF;clear hF
 have hmf:=fu
 go_enter_defers Tryz.func66,Tryz.ntmps66
 go_wp2_with (first
  |((with_reducible refine af 73 bJ ed (some 2) ?hgd ?ho ?hd ?_);(case hgd|ho|hd=>rfl);(intro bm w1 l1 B1 e1 z1))
  |((with_reducible refine aG 4 (.bool false) (by intro w;kernel_rfl) rfl (some 3) ?hgd ?ho ?hd ?_);(case hgd|ho|hd=>rfl);(intro bo w2 l2 B2 e2 z2);have M2:=B1.below e2 (Nat.lt_of_lt_of_le B1.lt l2))
  |((with_reducible refine ai 199 (.tmp 7) [.string s, .bool true, .bool false] (some 8) ?hgd ?ho ?hd ?hx ?_);(case hgd|ho|hd|hx=>rfl);(intro q w3 l3 P3 e3 z3);have M3:=M2.below e3 (Nat.lt_of_lt_of_le M2.lt l3);have O3:=B2.below e3 (Nat.lt_of_lt_of_le B2.lt l3))
  |fail)
 have hmo:bm≠bo:=by have:=B1.lt;omega
 have hmq:bm≠q:=by have:=M2.lt;omega
 have hoq:bo≠q:=by have:=B2.lt;omega
 have f1:w.heap.size≤bm:=l1
 have f2:w.heap.size≤bo:=by have:=e1.size;omega
 have f3:w.heap.size≤q:=by have:=e1.size;have:=e2.size;omega
 have HB3:=Lib.hid (show Below w.heap.size w w3 from((e1.mono l1).trans (e2.mono f2)).trans (e3.mono f3))
 have T0:ab [q,bm] w3 w3:=ab.refl _ _
 clear B1 B2 M2 e1 e2 e3 l1 l2 l3 z1 z2 z3
 have O3':=Lib.hid O3
 clear O3
 refine(bY q s true false bm 0 1 0 bJ 73 w3 P3 M3 rfl hmq (by omega) (by omega) (fun h=>by cases h) (by omega)).mono ?_
 rintro e w4 he
 cases hn:bu true 1 0 s.data.toList with
 |none=>
  have HF:Hid (∀m,gJ s.data.toList≠some (m,[])):=Lib.hid (fun m h=>by unfold gJ at h;rw[hn]at h;cases h)
  rw[hn]at he
  obtain⟨rfl,hbad⟩:=he
  obtain⟨⟨cs',hcl,HMb⟩,hbt⟩:=hbad
  have O4:=hbt.blk O3'.out (by simp[hmo.symm,hoq])
  have HBAD:=Lib.hid (show cs'.length=41∧ac w4 bm cs' 73∧ac w4 bo [.bool false] 4∧ab [q,bm] w3 w4 from⟨hcl,HMb,O4,hbt⟩)
  clear hn hbt O4 HMb hcl
  go_wp2_with fail
  refine leaves_cons (f:=123) (args:=#[.pointer (some ⟨bm,0,none⟩), .pointer (some ⟨bo,0,none⟩)]) (by simp) (by simp[go_sem]) ?_
  refine(nB bm bo _ _ _ HBAD.out.1 HBAD.out.2.1 HBAD.out.2.2.1 hmo).mono ?_
  rintro e u' w9 ⟨rfl,rfl,M9,O9,T9⟩
  refine⟨_,mE rfl _ w9 M9 O9 rfl rfl rfl, .inr ⟨_,HF.out,rfl,rfl,by simpa using iI⟩, ?_⟩
  exact(HBAD.out.2.2.2.trans' T9).below HB3.out (fun x hx=>by have:=List.mem_append.1 hx;simp only[List.mem_cons,List.mem_nil_iff,or_false]at this;omega) HB3.out.size
 |some p=>
  obtain⟨k,s1⟩:=p
  rw[hn]at he
  obtain⟨rfl,hdn⟩:=he
  obtain⟨p1,tp1,P4⟩:=hdn.part
  have M4:ac w4 bm (({aa.zero with kind:=k}:aa).cells (.slice none 0 0) (.slice none 0 0)) 73:=hdn.blk
  have O4:=Lib.hid (hdn.turned.blk O3'.out (by simp[hmo.symm,hoq]))
  have HT4:=Lib.hid hdn.turned
  have hp1:p1.size≤1000000:=by
   rw[tp1.size]
   have:=cq hn
   unfold bu at hn
   rw[if_pos rfl]at hn
   split at hn
   ·cases hn
   ·simp only[Option.some.injEq,Prod.mk.injEq]at hn
    rw[←hn.2,List.length_drop]
    have:s.data.toList.length=s.size:=rfl
    omega
  have hrd:gJ s.data.toList=av true false {aa.zero with kind:=k} p1.data.toList:=by
   unfold gJ
   rw[hn,show p1.data.toList=s1 from tp1]
  have HRD:=Lib.hid hrd
  clear hrd hn hdn tp1 O3' M3 P3
  go_wp2_with fail
  refine(rZ (bo::F) q p1 true false bm {aa.zero with kind:=k} (.slice none 0 0) (.slice none 0 0) w4 P4 M4 hmq (fun _ x hx=>by rcases List.mem_cons.1 hx with e|hx;rw[e];exact O4.out.lt;have:=HFF.out x hx;have:=HB3.out.size;have:=HT4.out.size;omega) (aC.nil _ _) (aC.nil _ _) (fun _=>⟨⟨rfl,rfl⟩,⟨rfl,rfl⟩⟩) (fun h=>by cases h) hp1).mono ?_
  rintro e w5 he
  cases hn:av true false {aa.zero with kind:=k} p1.data.toList with
  |none=>
   have HF:Hid (∀m,gJ s.data.toList≠some (m,[])):=Lib.hid (fun m h=>by rw[HRD.out,hn]at h;cases h)
   rw[hn]at he
   obtain⟨rfl,hbad⟩:=he
   obtain⟨⟨cs',hcl,HMb⟩,hbt⟩:=hbad
   have O5:=hbt.blk O4.out (by simp[hmo.symm,hoq])
   have HBAD:=Lib.hid (show cs'.length=41∧ac w5 bm cs' 73∧ac w5 bo [.bool false] 4∧ab [q,bm] w3 w5 from⟨hcl,HMb,O5,HT4.out.trans hbt⟩)
   clear hn hbt O5 HMb hcl M4 P4
   go_wp2_with fail
   refine leaves_cons (f:=123) (args:=#[.pointer (some ⟨bm,0,none⟩), .pointer (some ⟨bo,0,none⟩)]) (by simp) (by simp[go_sem]) ?_
   refine(nB bm bo _ _ _ HBAD.out.1 HBAD.out.2.1 HBAD.out.2.2.1 hmo).mono ?_
   rintro e u' w9 ⟨rfl,rfl,M9,O9,T9⟩
   refine⟨_,mE rfl _ w9 M9 O9 rfl rfl rfl, .inr ⟨_,HF.out,rfl,rfl,by simpa using iI⟩, ?_⟩
   exact(HBAD.out.2.2.2.trans' T9).below HB3.out (fun x hx=>by have:=List.mem_append.1 hx;simp only[List.mem_cons,List.mem_nil_iff,or_false]at this;omega) HB3.out.size
  |some pr=>
   obtain⟨m,s2⟩:=pr
   rw[hn]at he
   obtain⟨rfl,u,l,hdn,hu,hl⟩:=he
   obtain⟨p2,tp2,P5⟩:=hdn.part
   have M5:ac w5 bm (m.cells u l) 73:=hdn.blk
   have O5:=Lib.hid (hdn.turned.blk O4.out (by simp[hmo.symm,hoq]))
   have HT5:=Lib.hid (HT4.out.trans hdn.turned)
   have HU:=Lib.hid (show aC (q::bm::bo::F) w5 u m.told.up∧aC (q::bm::bo::F) w5 l m.told.left from⟨hu,hl⟩)
   have hr2:gJ s.data.toList=some (m,s2):=by rw[HRD.out,hn]
   have HRD2:=Lib.hid hr2
   have TP2:=Lib.hid tp2
   have HM5:=Lib.hid M5.drew
   have HP5:=Lib.hid (show aI w5.drew q p2 true false from ac.drew P5)
   clear hn hdn hr2 tp2 M4 P4 hu hl O4 HT4 M5 P5
   go_wp2_with fail
   have hS0:(fun w'=>w'.rangeAt bm 0 (m.cells u l)∧w'.cell? ⟨q,0,none⟩=some (.string p2)) w5.drew:=⟨HM5.out.range,HP5.out.c0⟩
   refine wp_region_noPanic ?_
   refine wp_region_held_drew (S:=fun w'=>w'.rangeAt bm 0 (m.cells u l)∧w'.cell? ⟨q,0,none⟩=some (.string p2)) (by kernel_rfl) (hS0) (fun hHeld=> ?_)
   clear hS0
   refine wpAnyH_take (i:=0) (v:= .agg (m.cells u l).toArray) rfl (by kernel_rfl) (by kernel_rfl) (by kernel_rfl) (fun _ _ _ h=>h) (yieldsIf_load_mid (by rfl) 73 (.tmp 2) rfl bm 0 rfl (m.cells u l) _ (fun w h=>h.1) Tryz.underlying73 rfl ap) (by assumption) ?_
   (try go_frame)
   refine hp 1 ?_
   refine hp 2 ?_
   refine hp 3 ?_
   refine hp 4 ?_
   refine hp 5 ?_
   obtain⟨ua,uc,hue⟩:=aC.shape HU.out.1
   obtain⟨la,lc,hle⟩:=aC.shape HU.out.2
   have one6:∀v∈m.cells u l,v.oneCell'=true:=cr ⟨ua,uc,hue⟩ ⟨la,lc,hle⟩
   have A6:ac (w5.drew.setCells bm 0 (m.cells u l).toArray.toList) bm (m.cells u l) 73:=by simpa using HM5.out.setAll (m.cells u l) rfl
   have A7:bH bm w5.drew (w5.drew.setCells bm 0 (m.cells u l).toArray.toList):=by simpa using(bH.refl bm w5.drew).setCells (m.cells u l) 0
   refine wpAnyH_ready (rs:=[6]) (by kernel_rfl) (by simp) ?_
   refine AllReadyH.cons rfl (fun K hK=> ?_) AllReadyH.nil
   rw[if_pos (by rfl)]
   refine wp_store_mid 73 (.tmp 2) (.tmp 14) rfl bm 0 (m.cells u l).toArray rfl rfl (qE HM5.out (by simp)) (by simpa using ap) (all_oneCell_toArray one6) ?_
   generalize(w5.drew.setCells bm 0 (m.cells u l).toArray.toList)=w6 at A6 A7 ⊢
   have P6:aI w6 q p2 true false:=A7.blk HP5.out hmq.symm
   have O6:ac w6 bo [.bool false] 4:=A7.blk O5.out.drew hmo.symm
   refine hK.out _ _ ⟨A6.range,P6.c0⟩ (fun hHeld2=> ?_)
   clear hK K hHeld
   have hHeld:=hHeld2
   clear hHeld2
   (try go_frame)
   have c0:=O6.cell (i:=0) rfl
   have z0:=ac.free O6 0
   refine wpAnyH_ready (rs:=[7]) (by kernel_rfl) (by simp) ?_
   refine AllReadyH.cons rfl (fun K hK=> ?_) AllReadyH.nil
   go_simp
   have A8:=O6.set 0 (.bool p2.toList.isEmpty)
   have A9:bH bo w6 (w6.setCell ⟨bo,0,none⟩ (.bool p2.toList.isEmpty)):=(bH.refl bo w6).setCell 0 _
   clear c0 z0
   generalize(w6.setCell ⟨bo,0,none⟩ (.bool p2.toList.isEmpty))=w7 at A8 A9 ⊢
   have M7:=A9.blk A6 hmo
   have P7:aI w7 q p2 true false:=A9.blk P6 hoq.symm
   refine hK.out _ _ ⟨M7.range,P7.c0⟩ (fun hHeld2=> ?_)
   clear hK K hHeld
   have hHeld:=hHeld2
   clear hHeld2
   (try go_frame)
   refine wpAnyH_done (by kernel_rfl) ?_ _
   refine NoPanic.normal ?_
   clear hHeld
   have HT7:ab [q,bm,bo] w3 w7:=⟨by rw[A9.os,A7.os];exact HT5.out.os,by rw[A9.tape,A7.tape];exact HT5.out.tape,by rw[A9.output,A7.output];exact HT5.out.output,by rw[A9.size,A7.size];exact HT5.out.size,fun i hi hn=>by
    simp only[List.mem_cons,List.mem_nil_iff,or_false,not_or]at hn
    rw[A9.block i hn.2.2,A7.block i hn.2.1]
    exact HT5.out.block i hi (by simp only[List.mem_cons,List.mem_nil_iff,or_false,not_or];exact⟨hn.1,hn.2.1⟩)⟩
   have HB7:=HT7.below HB3.out (fun x hx=>by simp only[List.mem_cons,List.mem_nil_iff,or_false]at hx;omega) HB3.out.size
   have HM7:=Lib.hid M7
   have HO7:=Lib.hid A8
   have HT57:ab [bo,q,bm] w5 w7:=⟨by rw[A9.os,A7.os];rfl,by rw[A9.tape,A7.tape];rfl,by rw[A9.output,A7.output];rfl,by rw[A9.size,A7.size];exact Nat.le_refl _,fun i hi hn=>by
    simp only[List.mem_cons,List.mem_nil_iff,or_false,not_or]at hn
    rw[A9.block i hn.1,A7.block i hn.2.2];rfl⟩
   have HT58:ab (q::bm::bo::F) w5 w7:=HT57.mono (by intro x hx;simp only[List.mem_cons,List.mem_nil_iff,or_false]at hx ⊢;rcases hx with h|h|h<;>simp[h])
   have HPU:aC F w7 u m.told.up:=(HU.out.1.turned HT58).sub (fun x hx=>by simp[hx])
   have HPL:aC F w7 l m.told.left:=(HU.out.2.turned HT58).sub (fun x hx=>by simp[hx])
   clear HT58
   have HPP:=Lib.hid (And.intro HPU HPL)
   have HBB:=Lib.hid HB7
   have HONE:=Lib.hid one6
   clear HPU HPL HB7 HT57 HT7 A6 A7 A8 A9 M7 P7 P6 O6 one6
   go_wp2_with fail
   refine leaves_cons (f:=123) (args:=#[.pointer (some ⟨bm,0,none⟩), .pointer (some ⟨bo,0,none⟩)]) (by simp) (by simp[go_sem]) ?_
   refine(vE bm bo _).mono ?_
   rintro e u' w9 ⟨rfl,rfl,rfl⟩
   refine⟨_,mE rfl _ _ HM7.out HO7.out rfl rfl rfl, ?_,HBB.out⟩
   cases hs2:p2.toList.isEmpty with
   |true=>
    have e2:s2=[]:=by
     rw[←show p2.data.toList=s2 from TP2.out]
     have:=List.isEmpty_iff.1 hs2
     rw[Lib.toList_data]at this
     exact this
    exact .inl ⟨m,u,l,by rw[HRD2.out,e2],rfl,HPP.out.1,HPP.out.2⟩
   |false=>
    refine .inr ⟨_,fun m' h=> ?_,rfl,rfl,by simpa using HONE.out⟩
    rw[HRD2.out]at h
    injection h with h
    injection h with _ h
    have h3:p2.data.toList=[]:=(show p2.data.toList=s2 from TP2.out).trans h
    rw[←Lib.toList_data]at h3
    rw[h3]at hs2
    cases hs2
theorem j8 {fn:Func} {p q:Tmp} (h:fn.results=#[.cell p 73, .tmp q]) (tmps:Array Value) (w:World) {bm:Nat} {cs:List Value} (hM:ac w bm cs 73)
  (hl:some 41=some cs.length) (hp:tmps.getD p undef= .pointer (some ⟨bm,0,none⟩)):
  (results fn tmps).run Tryz.prog w= .ok (.tuple #[.agg cs.toArray,tmps.getD q undef]) w:=by
 have hi:(Tryz.prog.info? 73).map (·.size)=some cs.length:=by rw[←hl];kernel_rfl
 have e:=run_loadVar_mid (P:=Tryz.prog) w bm 0 73 cs _ hM.range Tryz.underlying73 rfl hi
 rw[results_cell_tmp h,hp]
 simp only[asAddr,Sem.run_pure,Result.andThen_ok,e]
def ma (s:List UInt8) (m:aa):Prop:=gJ s=some (m,[])∧aM m=true∧dj m=s
def yR (s:List UInt8) (e:Ending) (w':World):Prop:=
 (∃m u l,ma s m∧e= .returned (.tuple #[m.v u l, .int .i64 0])∧aX w' u m.told.up∧aX w' l m.told.left)∨
 ((∀m,¬ma s m)∧e= .returned (.tuple #[aa.zero.v (.slice none 0 0) (.slice none 0 0), .int .i64 3]))
theorem oZ (s:ByteArray) (w:World) (hs:s.size≤1000000):
  Calls Tryz.prog 28 #[.string s] w fun e w'=>yR s.data.toList e w'∧Below w.heap.size w w':=by
 go_enter Tryz.func28,Tryz.ntmps28
 go_wp2_with (first|((with_reducible refine af 73 bJ ed (some 2) ?hgd ?ho ?hd ?_);(case hgd|ho|hd=>rfl);(intro b1 w1 l1 B1 e1 z1))|fail)
 refine(CV [b1] s _ hs (fun x hx=>by rw[List.mem_singleton.1 hx];exact B1.lt)).mono ?_
 rintro e w2 ⟨hr,hb2⟩
 have R2:=B1.below hb2 B1.lt
 have HB2:=Lib.hid (show Below w.heap.size w w2 from(e1.mono l1).trans (hb2.mono (by have:=e1.size;omega)))
 have f1:w.heap.size≤b1:=l1
 clear e1 l1 z1 B1 hb2
 rcases hr with⟨m,u,l,hrd,rfl,hu,hl⟩|⟨cs,hno,rfl,hcs,hone⟩
 ·have HRD:=Lib.hid hrd
  have HT:=Lib.hid (zR hrd)
  have hsu:=hu.shape
  have hsl:=hl.shape
  have one6:∀v∈m.cells u l,v.oneCell'=true:=cr hsu hsl
  have HU:=Lib.hid (And.intro hu hl)
  clear hrd hu hl hsu hsl
  go_upto_region 2 with(first
   |((with_reducible refine af 73 bJ ed (some 4) ?hgd ?ho ?hd ?_);(case hgd|ho|hd=>rfl);(intro b3 w3 l3 B3 e3 z3);have R3:=R2.below e3 (Nat.lt_of_lt_of_le R2.lt l3);have hne:b1≠b3:=(by have:=R2.lt;omega);have f3:w.heap.size≤b3:=Nat.le_trans HB2.out.size l3)
   |((with_reducible refine ae 73 (.tmp 4) (.tmp 9) b3 bJ (m.cells u l) 73 B3 rfl ap one6 ?hgd ?ho ?hx ?hy ?_);(case hgd|ho|hx|hy=>rfl);(intro w4 B4 o4))
   |fail)
  have R4:=o4.blk R3 hne
  have HB4:=Lib.hid (o4.below (HB2.out.trans (e3.mono f3)) f3)
  have hb24:Below w2.heap.size w2 w4:=o4.below (e3.mono l3) l3
  have PV:=Lib.hid (show aC [b1] w4 u m.told.up∧aC [b1] w4 l m.told.left from⟨HU.out.1.turned (ab.of_below hb24 (Nat.le_refl _)),HU.out.2.turned (ab.of_below hb24 (Nat.le_refl _))⟩)
  have PU:=Lib.hid (show aX w4 u m.told.up∧aX w4 l m.told.left from⟨PV.out.1.sub (fun x hx=>(List.not_mem_nil hx).elim),PV.out.2.sub (fun x hx=>(List.not_mem_nil hx).elim)⟩)
  clear HU R2 R3 B3 o4 e3 l3 z3 HB2 hb24
  cases hok:aM m with
  |false=>
   have HNO:=Lib.hid (show ∀m',¬ma s.data.toList m' from fun m' h=>by
    have h1:=h.1
    rw[HRD.out]at h1
    injection h1 with h1
    injection h1 with h1 _
    have h2:=h.2.1
    rw[←h1,hok]at h2
    cases h2)
   have HC:=Lib.hid (re hok)
   clear hok
   go_wp2_with (first
    |((with_reducible refine ag 73 (.tmp 4) b3 0 (m.cells u l) _ (some 14) (B4).range Tryz.underlying73 rfl ap ?hg ?ho ?hds ?hx ?_);(case ho|hg|hds|hx=>rfl))
    |(go_at_call 61;refine(dt m u l _ PU.out.1 PU.out.2 HT.out).mono ?_;rintro e w5 ⟨he,hb5⟩;rw[HC.out]at he;subst he;have R:=R4.below hb5 R4.lt;have HB5:=Lib.hid (HB4.out.trans (hb5.mono HB4.out.size)))
    |((with_reducible refine ao 73 ?parts bJ ?hg ?ho ?hf ?_);(case hg|ho=>rfl);(case hf=>kernel_rfl))
    |((with_reducible refine ae 73 (.tmp 2) (.tmp 24) b1 bJ bJ 73 R rfl lZ iI ?hgd ?ho ?hx ?hy ?_);(case hgd|ho|hx|hy=>rfl);(intro w9 B9 o9))
    |fail)
   (try simp only[Exit.inBlock,Exit.then])
   refine bodyPost_ret (j8 rfl _ _ B9 rfl rfl) rfl ⟨.inr ⟨HNO.out,rfl⟩,o9.below HB5.out f1⟩
  |true=>
   have HC:=Lib.hid (gn hok)
   have HOK:=Lib.hid hok
   clear hok
   go_upto_if 23 with(first
    |((with_reducible refine ag 73 (.tmp 4) b3 0 (m.cells u l) _ (some 14) (B4).range Tryz.underlying73 rfl ap ?hg ?ho ?hds ?hx ?_);(case ho|hg|hds|hx=>rfl))
    |(go_at_call 61;refine(dt m u l _ PU.out.1 PU.out.2 HT.out).mono ?_;rintro e w5 ⟨he,hb5⟩;rw[HC.out]at he;subst he;have R:=R4.below hb5 R4.lt;have B5:=B4.below hb5 B4.lt;have HB5:=Lib.hid (HB4.out.trans (hb5.mono HB4.out.size));have PU5:=Lib.hid (show aX w5 u m.told.up∧aX w5 l m.told.left from⟨PU.out.1.below hb5 (Nat.le_refl _),PU.out.2.below hb5 (Nat.le_refl _)⟩);have PV5:=Lib.hid (show aC [b1] w5 u m.told.up∧aC [b1] w5 l m.told.left from⟨PV.out.1.turned (ab.of_below hb5 (Nat.le_refl _)),PV.out.2.turned (ab.of_below hb5 (Nat.le_refl _))⟩))
    |((with_reducible refine ag 73 (.tmp 4) b3 0 (m.cells u l) _ (some 19) (B5).range Tryz.underlying73 rfl ap ?hg ?ho ?hds ?hx ?_);(case ho|hg|hds|hx=>rfl))
    |fail)
   refine(kA m u l false _ PU5.out.1 PU5.out.2 HOK.out).mono ?_
   rintro e w6 ⟨r,rfl,tr,hb6⟩
   have R6:=R.below hb6 R.lt
   have B6:=B5.below hb6 B5.lt
   have HB6:=Lib.hid (HB5.out.trans (hb6.mono HB5.out.size))
   have PV6:=Lib.hid (show aC [b1] w6 u m.told.up∧aC [b1] w6 l m.told.left from⟨PV5.out.1.turned (ab.of_below hb6 (Nat.le_refl _)),PV5.out.2.turned (ab.of_below hb6 (Nat.le_refl _))⟩)
   have TR:=Lib.hid (show ak r (dj m)from tr)
   clear tr hb6 R4 B4 R B5 HB4 HB5 PU PU5
   by_cases hp:r=s
   ·have e1:(r.toList==s.toList)=true:=by rw[hp];simp
    have HPP:=Lib.hid hp
    clear hp
    go_wp2_with (first
     |((with_reducible refine ag 73 (.tmp 4) b3 0 (m.cells u l) _ (some 25) (B6).range Tryz.underlying73 rfl ap ?hg ?ho ?hds ?hx ?_);(case ho|hg|hds|hx=>rfl))
     |((with_reducible refine ae 73 (.tmp 2) (.tmp 25) b1 bJ (m.cells u l) 73 R6 rfl ap one6 ?hgd ?ho ?hx ?hy ?_);(case hgd|ho|hx|hy=>rfl);(intro w9 B9 o9))
     |fail)
    (try simp only[Exit.inBlock,Exit.then])
    have PU9:aX w9 u m.told.up∧aX w9 l m.told.left:=⟨(PV6.out.1.turned (o9.turned (by simp))).sub (fun x hx=>(List.not_mem_nil hx).elim),(PV6.out.2.turned (o9.turned (by simp))).sub (fun x hx=>(List.not_mem_nil hx).elim)⟩
    refine bodyPost_ret (j8 rfl _ _ B9 rfl rfl) rfl ⟨.inl ⟨m,u,l,⟨HRD.out,HOK.out, ?_⟩,rfl,PU9.1,PU9.2⟩,o9.below HB6.out f1⟩
    rw[←HPP.out];exact TR.out.symm
   ·have e1:(r.toList==s.toList)=false:=(ak.self r).other (ak.self s) (fun e=>hp (by
     have h1:=(ak.self r).of
     have h2:=(ak.self s).of
     rw[h1,h2,e]))
    have HNO:=Lib.hid (show ∀m',¬ma s.data.toList m' from fun m' h=>by
     have h1:=h.1
     rw[HRD.out]at h1
     injection h1 with h1
     injection h1 with h1 _
     have h2:=h.2.2
     rw[←h1]at h2
     exact hp (TR.out.eq (h2 ▸ ak.self s)))
    clear hp
    have R:=R6
    go_wp2_with (first
     |((with_reducible refine ao 73 ?parts bJ ?hg ?ho ?hf ?_);(case hg|ho=>rfl);(case hf=>kernel_rfl))
     |((with_reducible refine ae 73 (.tmp 2) (.tmp 24) b1 bJ bJ 73 R rfl lZ iI ?hgd ?ho ?hx ?hy ?_);(case hgd|ho|hx|hy=>rfl);(intro w9 B9 o9))
     |fail)
    (try simp only[Exit.inBlock,Exit.then])
    refine bodyPost_ret (j8 rfl _ _ B9 rfl rfl) rfl ⟨.inr ⟨HNO.out,rfl⟩,o9.below HB6.out f1⟩
 ·have HNO:=Lib.hid (show ∀m',¬ma s.data.toList m' from fun m' h=>hno m' h.1)
  have hcl:cs.toList.length=bJ.length:=by rw[Array.length_toList,hcs];rfl
  have hci:(Tryz.prog.info? 73).map (·.size)=some cs.toList.length:=by rw[hcl];exact lZ
  clear hno
  go_wp2_with (first
   |((with_reducible refine af 73 bJ ed (some 4) ?hgd ?ho ?hd ?_);(case hgd|ho|hd=>rfl);(intro b3 w3 l3 B3 e3 z3);have R3:=R2.below e3 (Nat.lt_of_lt_of_le R2.lt l3);have hne:b1≠b3:=(by have:=R2.lt;omega);have f3:w.heap.size≤b3:=Nat.le_trans HB2.out.size l3)
   |((with_reducible refine ae 73 (.tmp 4) (.tmp 9) b3 bJ cs.toList 73 B3 hcl hci hone ?hgd ?ho ?hx ?hy ?_);(case hgd|ho|hx|hy=>rfl);(intro w4 B4 o4);have R:=o4.blk R3 hne;have HB4:=Lib.hid (o4.below (HB2.out.trans (e3.mono f3)) f3))
   |((with_reducible refine ao 73 ?parts bJ ?hg ?ho ?hf ?_);(case hg|ho=>rfl);(case hf=>kernel_rfl))
   |((with_reducible refine ae 73 (.tmp 2) (.tmp 24) b1 bJ bJ 73 R rfl lZ iI ?hgd ?ho ?hx ?hy ?_);(case hgd|ho|hx|hy=>rfl);(intro w9 B9 o9))
   |fail)
  (try simp only[Exit.inBlock,Exit.then])
  refine bodyPost_ret (j8 rfl _ _ B9 rfl rfl) rfl ⟨.inr ⟨HNO.out,rfl⟩,o9.below HB4.out f1⟩
end Go.Proofs.YtngiibgdgenidaaGreat
