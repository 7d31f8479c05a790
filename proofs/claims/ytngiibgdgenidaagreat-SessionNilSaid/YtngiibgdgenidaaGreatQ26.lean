/- A verifier's key and tag; how one is made, and how a session begins (chapter 28). What a verifier does with an epoch, and with a head (chapter 28). An epoch of no cell: its segment (chapter 26). A volume is formatted (chapter 26): Mount, Format. -/
import Derived.Test.YtngiibgdgenidaaGreatQ15
import Derived.Test.YtngiibgdgenidaaGreatQ25
import Derived.Test.YtngiibgdgenidaaGreatQ6
import Derived.Test.YtngiibgdgenidaaGreatQ5
import Derived.Test.YtngiibgdgenidaaGreatQ4
import Derived.Deep.RegionHeld3
import Derived.Deep.MidRow
import Derived.Deep.DeepAppendWide
import Derived.Laws.OwnMore
import Derived.Lib.SliceRun
import Derived.Test.YtngiibgdgenidaaGreatQ9
import Derived.Test.YtngiibgdgenidaaGreatQ19
import Derived.Test.YtngiibgdgenidaaGreatQ16
import Derived.Test.YtngiibgdgenidaaGreatQ14
import Derived.Test.YtngiibgdgenidaaGreatQ18
set_option linter.unusedSimpArgs false
set_option linter.unusedVariables false
set_option maxRecDepth 100000
set_option maxHeartbeats 4000000
namespace Go.Proofs.YtngiibgdgenidaaGreat
open Go Go.RowKit Go.Maps Go.WideMaps
theorem qs (vb:Nat) (d:ay) (n:Nat) (x:Int) (w:World) (h:bq w vb d) (hr:d.root.size=32) (hn:n≤4096) (hx:(n:Int)=x):
  Calls Tryz.prog 116 #[.pointer (some ⟨vb,0,none⟩), .int .i64 x] w fun e w'=>(∃q:ByteArray,e= .returned (.string q)∧ak q (iV d.root.data.toList 0 n))∧Below w.heap.size w w':=by
 subst hx
 have HH:=Lib.hid h
 have HR:=Lib.hid hr
 clear h hr
 go_enter Tryz.func116,Tryz.ntmps116
 go_wp2_with fail
 refine hb (fun w'=>w'.cell? ⟨vb,0,none⟩=some (.string d.root)∧w'.cell? ⟨vb,1,none⟩=some (.int .i64 0)) (⟨HH.out.blk.drew.cell (i:=0) rfl,HH.out.blk.drew.cell (i:=1) rfl⟩) fun hHeld=> ?_
 refine hp 0 ?_
 refine hp 1 ?_
 refine hp 2 ?_
 refine hp 3 ?_
 refine hp 4 ?_
 refine hp 5 ?_
 refine hp 6 ?_
 refine hp 7 ?_
 refine hp 8 ?_
 refine hc 9 fun K hK=> ?_
 go_simp
 refine(Gl d.root 0 (n:Int) _).mono ?_
 rintro e w1 ⟨he,hb1⟩
 have HH1:=Lib.hid (HH.out.blk.drew.below hb1 HH.out.blk.drew.lt)
 have HB1:=Lib.hid (show Below w.heap.size w w1 from((Below.refl _ _).drew).trans (hb1.mono (Nat.le_refl _)))
 clear hb1
 rcases he with⟨_,q,rfl,tq⟩|⟨h,rfl⟩|⟨h,rfl⟩
 rotate_left
 ·exact absurd h (by have h32:d.root.data.toList.length=32:=HR.out;omega)
 ·omega
 have TQ:=Lib.hid (show ak q (iV d.root.data.toList 0 n) by simpa using tq)
 clear tq
 (try go_wp2_with fail)
 refine hK.out _ _ (⟨HH1.out.cell (i:=0) rfl,HH1.out.cell (i:=1) rfl⟩) fun _=> ?_
 clear hK K hHeld
 rename_i hHeld
 (try go_frame)
 refine hp 10 ?_
 refine hp 11 ?_
 refine hp 12 ?_
 refine hp 13 ?_
 refine hp 14 ?_
 refine hd ?_
 go_wp2_with fail
 go_ret
 exact⟨⟨q,rfl,TQ.out⟩,HB1.out⟩
theorem qt (vb:Nat) (d:ay) (m:aa) (u l:Value) (n:Nat) (w:World) (h:bq w vb d) (hr:d.root.size=32) (hn:n≤4096) (he:(n:Int)=m.epoch) (ht:bc m) (hu:aX w u m.told.up) (hl:aX w l m.told.left) (hok:(al m.kind&&aM ({m with tag:=m.nonce}:aa))=true):
  Calls Tryz.prog 60 #[.pointer (some ⟨vb,0,none⟩),m.v u l] w fun e w'=>(∃q:ByteArray,e= .returned (.string q)∧ak q (jj (iV d.root.data.toList 0 n) m))∧Below w.heap.size w w':=by
 have HH:=Lib.hid h
 have HR:=Lib.hid hr
 have HE:=Lib.hid he
 have HT:=Lib.hid ht
 have HU:=Lib.hid hu
 have HL:=Lib.hid hl
 have HOK:=Lib.hid hok
 obtain⟨p1,c1,hpu⟩:=hu.shape
 obtain⟨p2,c2,hpl⟩:=hl.shape
 have HPU:=Lib.hid (show ∃(p:Option Addr) (c:Nat),u= .slice p m.told.up.length c from⟨p1,c1,hpu⟩)
 have HPL:=Lib.hid (show ∃(p:Option Addr) (c:Nat),l= .slice p m.told.left.length c from⟨p2,c2,hpl⟩)
 clear h hr he ht hu hl hok hpu hpl
 go_enter Tryz.func60,Tryz.ntmps60
 go_wp2_with (first
  |((with_reducible refine ai 73 (.tmp 1) (m.cells u l) (some 3) ?hgd ?ho ?hd ?hx ?_);(case hgd|ho|hd|hx=>rfl);(intro b0 w0 l0 B0 e0 z0;have c03:=B0.cell (i:=3) rfl))
  |((with_reducible refine aj 9 (.tmp 9) (.tmp 8) b0 4 (.string m.nonce) _ _ B0 (Nat.le_of_ble_eq_true rfl) (by kernel_rfl) rfl ?hgd ?ho ?hx ?hy ?_);(case hgd|ho|hx|hy=>rfl);(intro w2 B2 o2))
  |fail)
 have HB0:=Lib.hid (show Below w.heap.size w w0 from e0.mono l0)
 have HB2:=Lib.hid (o2.below HB0.out l0)
 obtain⟨m',hm'⟩:∃m':aa,m'={m with tag:=m.nonce}:=⟨_,rfl⟩
 have HX2:=Lib.hid (show ac w2 b0 (m'.cells u l) 73 by rw[hm'];exact B2)
 have HE':=Lib.hid (show m'.epoch=m.epoch by rw[hm'])
 have HT':=Lib.hid (show bc m' by rw[hm'];exact HT.out.of rfl rfl rfl)
 have HOK':=Lib.hid (show(al m'.kind&&aM m')=true by rw[hm'];exact HOK.out)
 have HS':=Lib.hid (show eU m'=eU m by rw[hm'];rfl)
 have HTo:=Lib.hid (show m'.told=m.told by rw[hm'])
 clear hm'
 have HV2:=Lib.hid (HH.out.below HB2.out)
 have HU2:=Lib.hid (show aX w2 u m'.told.up by rw[HTo.out];exact HU.out.below HB2.out (Nat.le_refl _))
 have HL2:=Lib.hid (show aX w2 l m'.told.left by rw[HTo.out];exact HL.out.below HB2.out (Nat.le_refl _))
 clear B0 e0 l0 z0 c03 B2 o2
 (try go_frame)
 refine hb (fun w'=>w'.rangeAt b0 0 (m'.cells u l)∧w'.cell? ⟨b0,1,none⟩=some (.int .i64 m'.epoch)) (⟨HX2.out.drew.range,HX2.out.drew.cell (i:=1) rfl⟩) fun hHeld=> ?_
 refine hp 0 ?_
 refine hp 1 ?_
 refine hp 2 ?_
 refine hl 4 73 b0 0 (m'.cells u l) (fun w h=>h.1) Tryz.underlying73 ap ?_
 refine hc 3 fun K hK=> ?_
 go_simp
 refine(qs vb d n m'.epoch _ HV2.out.drew HR.out (by omega) (by rw[HE'.out];exact HE.out)).mono ?_
 rintro e w3 ⟨⟨q,rfl,hq⟩,hb3⟩
 have HQ:=Lib.hid hq
 have HX3:=Lib.hid (HX2.out.drew.below hb3 HX2.out.drew.lt)
 have HV3:=Lib.hid (HV2.out.drew.below hb3)
 have HB3:=Lib.hid (HB2.out.drew.trans (hb3.mono HB2.out.drew.size))
 have HU3:=Lib.hid ((HU2.out.below (Below.refl _ _).drew (Nat.le_refl _)).below hb3 (Nat.le_refl _))
 have HL3:=Lib.hid ((HL2.out.below (Below.refl _ _).drew (Nat.le_refl _)).below hb3 (Nat.le_refl _))
 clear hb3 hq
 (try go_wp2_with fail)
 refine hK.out _ _ (⟨HX3.out.range,HX3.out.cell (i:=1) rfl⟩) fun _=> ?_
 clear hK K hHeld
 rename_i hHeld
 (try go_frame)
 refine hc 5 fun K hK=> ?_
 go_simp
 refine(j5 q m' u l _ HU3.out HL3.out HT'.out).mono ?_
 rintro e w4 ⟨he,hb4⟩
 have HX4:=Lib.hid (HX3.out.below hb4 HX3.out.lt)
 have HV4:=Lib.hid (HV3.out.below hb4)
 have HB4:=Lib.hid (HB3.out.trans (hb4.mono HB3.out.size))
 have HU4:=Lib.hid (HU3.out.below hb4 (Nat.le_refl _))
 have HL4:=Lib.hid (HL3.out.below hb4 (Nat.le_refl _))
 clear hb4
 obtain⟨tg,rfl,ttg⟩:=he.yes ⟨by rw[HQ.out.size,fU],HOK'.out⟩
 have TTG:=Lib.hid (show ak tg (jj (iV d.root.data.toList 0 n) m) by have h9:=ttg;unfold jj at h9 ⊢;rw[HS'.out,HQ.out]at h9;exact h9)
 clear ttg he
 (try go_wp2_with fail)
 refine hK.out _ _ (⟨HX4.out.range,HX4.out.cell (i:=1) rfl⟩) fun _=> ?_
 clear hK K hHeld
 rename_i hHeld
 (try go_frame)
 refine hp 6 ?_
 refine hp 7 ?_
 refine hp 8 ?_
 refine hp 9 ?_
 refine hp 10 ?_
 refine hd ?_
 go_wp2_with fail
 go_ret
 exact⟨⟨_,rfl,TTG.out⟩,HB4.out⟩
def dG (root:ByteArray) (cb m1 m2:Nat):ay:=⟨root,cb,m1,m2,0,0,0,⟨#[]⟩, .slice none 0 0,0,0,aa.zero, .slice none 0 0, .slice none 0 0, .slice none 0 0,[],none,0,0, .slice none 0 0, .slice none 0 0⟩
def fh (d:ay) (nonce:ByteArray) (v:Value) (na:Nat):ay:={dG d.root d.cb d.m1 d.m2 with nonces:=1,state:=1,nonce:=nonce,asks:=v,na:=na}
theorem BZ {d:ay} (s:ByteArray) (p:Option Addr) (n c:Nat):Tryz.prog.built 111 [(0, .int .i64 1),(2, .string s),(3, .slice p n c)]=some (pz (fh d s (.slice p n c) n)).toArray:=by kernel_rfl
theorem Em {d:ay}:(Tryz.prog.info? 111).map (·.size)=some (pz d).length:=by kernel_rfl
theorem F5 (d:ay) (s:ByteArray) (p:Option Addr) (n c:Nat):∀v∈pz (fh d s (.slice p n c) n),v.oneCell'=true:=by
 intro v hv
 simp only[pz,List.mem_cons,List.mem_append]at hv
 rcases hv with rfl|rfl|rfl|rfl|rfl|hv|hv
 ·rfl
 ·rfl
 ·rfl
 ·rfl
 ·rfl
 ·exact cr bR bR v hv
 ·simp[fh,dG,yD]at hv;rcases hv with rfl|rfl|rfl|rfl<;>rfl
theorem u7 (vb:Nat) (d:ay) (pa:Option Addr) (na ca:Nat) (w:World) (h:bq w vb d) (hn:d.nonces=0) (hr:d.root.size=32) (ha:w.ownsRow 0 55 2 (.slice pa na ca) na (List.replicate (na*2) (.int .i64 0))):
  Calls Tryz.prog 40 #[.pointer (some ⟨vb,0,none⟩), .slice pa na ca] w fun e w'=>e= .returned (.tuple #[])∧∃nonce:ByteArray,nonce.size=32∧bW w w' vb d (fh d nonce (.slice pa na ca) na):=by
 have HH:=Lib.hid h
 have HR:=Lib.hid hr
 have HA:=Lib.hid ha
 have HC5:=Lib.hid (show w.drew.cell? ⟨vb,5,none⟩=some (.int .i64 0) by rw[←hn];exact h.blk.drew.cell (i:=5) rfl)
 clear h hr ha hn
 go_enter Tryz.func40,Tryz.ntmps40
 go_wp2_with fail
 refine hb (fun w'=>w'.cell? ⟨vb,0,none⟩=some (.string d.root)∧w'.cell? ⟨vb,5,none⟩=some (.int .i64 0)) (⟨HH.out.blk.drew.cell (i:=0) rfl,HC5.out⟩) fun hHeld=> ?_
 refine hp 0 ?_
 refine hp 1 ?_
 refine hp 2 ?_
 refine hp 3 ?_
 refine hp 4 ?_
 refine hp 5 ?_
 refine hp 6 ?_
 refine hp 7 ?_
 refine hc 8 fun K hK=> ?_
 go_simp
 obtain⟨w1,hw1⟩:∃w1,w1=(w.alloc (Obj.cells #[Value.int IntKind.i64 0] 3)).drew:=⟨_,rfl⟩
 rw[←hw1]
 have hb1:Below w.heap.size w w1:=by rw[hw1];exact((Below.refl _ _).alloc (Nat.le_refl _) _).drew
 have B1:ac w1 w.heap.size [.int .i64 0] 3:=by rw[hw1];exact(ac.new w [.int .i64 0] _).drew
 have HG1:=Lib.hid B1
 have HH1:=Lib.hid (HH.out.below hb1)
 have HB1:=Lib.hid hb1
 have HC1:=Lib.hid (show w1.cell? ⟨vb,5,none⟩=some (.int .i64 0) by rw[hb1.cell (by show vb<w.heap.size;exact HH.out.blk.lt)];exact HC5.out)
 clear hb1 B1 hw1
 (try go_wp2_with fail)
 refine hK.out _ _ (⟨HH1.out.blk.cell (i:=0) rfl,HC1.out⟩) fun _=> ?_
 clear hK K hHeld
 rename_i hHeld
 (try go_frame)
 refine hc 9 fun K hK=> ?_
 go_simp
 refine(vP d.root ⟨#[110,111,110,99,101]⟩ _ [0] _ (by have:=HR.out;omega) (bF.blk (xs:=[0]) HG1.out rfl 1) (fun j x h=>by cases j with
  |zero=>simp at h;omega
  |succ j=>simp at h) (by simp)).mono ?_
 rintro e w2 ⟨he,hb2⟩
 have HH2:=Lib.hid (HH1.out.below hb2)
 have HB2:=Lib.hid (HB1.out.trans (hb2.mono HB1.out.size))
 have HC2:=Lib.hid (show w2.cell? ⟨vb,5,none⟩=some (.int .i64 0) by rw[hb2.cell (by show vb<w1.heap.size;exact HH1.out.blk.lt)];exact HC1.out)
 clear hb2
 rcases he with⟨_,nonce,rfl,tq⟩|⟨h,_⟩
 rotate_left
 ·exact absurd h (by decide)
 have HQ:=Lib.hid (show nonce.size=32 by rw[tq.size,dR])
 clear tq
 (try go_wp2_with fail)
 refine hK.out _ _ (⟨HH2.out.blk.cell (i:=0) rfl,HC2.out⟩) fun _=> ?_
 clear hK K hHeld
 rename_i hHeld
 (try go_frame)
 refine hp 10 ?_
 refine hp 11 ?_
 refine hp 12 ?_
 refine hp 13 ?_
 refine hp 14 ?_
 refine hd ?_
 have c5:=HC2.out
 have B2:=HH2.out.blk
 have f5:=B2.free 5
 go_wp2_with (first
  |((with_reducible refine aj 3 (.tmp 25) (.tmp 23) vb 5 (.int .i64 1) _ _ B2 (Nat.le_of_ble_eq_true rfl) (by kernel_rfl) rfl ?hgd ?ho ?hx ?hy ?_);(case hgd|ho|hx|hy=>rfl);(intro w3 B3 o3))
  |((with_reducible refine ao 111 ?parts (pz (fh d nonce (.slice pa na ca) na)) ?hg ?ho ?hf ?_);(case hg|ho=>rfl);(case hf=>exact(BZ nonce pa na ca)))
  |((with_reducible refine bG 111 (.tmp 31) (.tmp 29) vb 6 (pz (fh d nonce (.slice pa na ca) na)) _ _ B3 (Nat.le_of_ble_eq_true rfl) Em (F5 _ _ _ _ _) ?hgd ?ho ?hx ?hy ?_);(case hgd|ho|hx|hy=>rfl);(intro w4 B4 o4))
  |fail)
 go_end0
 have hb4:ab [vb] w w4:=(ab.of_below HB2.out (Nat.le_refl _)).trans ((o3.turned (S:=[vb]) (by simp)).trans (o4.turned (by simp)))
 have hS:=bZ.one HH.out.blk.ty
 refine⟨rfl,nonce,HQ.out,⟨⟨B4,dU HH.out.map hb4 (gB HH.out.map hS),aB HA.out hb4 (fun k hk=>(aV HA.out hk).notin hS (by decide)),World.ownsRow_nil _ _ _ _,fun k hk=>by cases hk⟩,hb4.mono (fun x hx=>by simp at hx;subst hx;simp[ay.foot]),fun x hx=>by have hx':x=vb:=(by simpa[ay.foot,fh,dG,lO,Value.ownBlock]using hx);subst hx';exact .inl (by simp[ay.foot])⟩⟩
theorem En:(Tryz.prog.info? 55).map (fun i=>(i.zero,i.size,i.bytes))=some (some (.agg #[.int .i64 0, .int .i64 0]),2,16):=by kernel_rfl
theorem u9 (w:World):Sem.run Tryz.prog (zeroValue 55) w= .ok (.agg #[.int .i64 0, .int .i64 0]) w:=by kernel_rfl
theorem vd {a b:Value}:(Tryz.prog.info? 55).map (·.size)=some [a,b].length:=by kernel_rfl
theorem rh:∀v∈([.int .i64 0, .int .i64 0]:List Value),v.oneCell'=true:=by intro v hv;simp at hv;subst hv;rfl
theorem ri (g c:Nat) (w:World) (h:ac w g [.int .i64 0, .int .i64 0] 55):
  Calls Tryz.prog 41 #[.slice (some ⟨g,0,none⟩) 1 c] w fun e w'=>(∃p c,e= .returned (.slice p 1 c)∧w'.ownsRow 0 55 2 (.slice p 1 c) 1 [.int .i64 0, .int .i64 0])∧Below w.heap.size w w':=by
 have HG:=Lib.hid h
 clear h
 obtain⟨i0,hi,hz0,hz1,hz2⟩:=info_parts En
 obtain⟨n,hn⟩:∃n,n=1:=⟨_,rfl⟩
 obtain⟨xs,hx⟩:∃xs:List Value,xs=[.int .i64 0, .int .i64 0]:=⟨_,rfl⟩
 have HXL:=Lib.hid (show xs.length=n*2 by rw[hx,hn];rfl)
 have HX1:=Lib.hid (show ∀v∈xs,v.oneCell'=true by rw[hx];exact rh)
 have HXS:=Lib.hid hx
 have HNN:=Lib.hid hn
 have HLT:=Lib.hid (show n≤1 by omega)
 rw[←hn]
 have HCA:=Lib.hid (show ∀(j:Nat) (u:Value),xs[j]?=some u→(w.alloc (.cells #[] 55)).cell? ((⟨g,0,none⟩:Addr).add j)=some u by rw[hx];exact cj (HG.out.below ((Below.refl _ _).alloc (Nat.le_refl _) _) HG.out.lt))
 have hnn:∀w,(binOp .eql 100 (.slice (some ⟨g,0,none⟩) n c) (.slice none 0 0)).run Tryz.prog w= .ok (.bool false) w:=fun w=>Lib.run_eql_slice_nil w 100 55 (some ⟨g,0,none⟩) n c 0 0 Tryz.underlying100
 clear hn hx
 go_enter Tryz.func41,Tryz.ntmps41
 go_wp2_with (first
  |(at_builtin;refine wpList_append_own_wide _ rfl _ _ 100 rfl w.heap.size 55 i0 (.agg #[.int .i64 0, .int .i64 0]) 2 16 Tryz.underlying100 hi hz0 hz1 hz2 rfl (by decide) _ 0 _ rfl (World.ownsRow_lit w #[] 0 (Nat.le_refl _) (by decide) rfl) ⟨g,0,none⟩ n c xs rfl HXL.out HCA.out HX1.out (by have:=HLT.out;unfold maxLen;omega) (by have:=HLT.out;omega) (by simp) ?_;intro v' w8 own8 grow8 nil8)
  |fail)
 have hb8:Below w.heap.size w w8:=fK ((Below.refl _ _).alloc (Nat.le_refl _) _) (World.ownsRow_lit (e:=55) (size:=2) w #[] 0 (Nat.le_refl _) (by decide) rfl) grow8 (Nat.le_refl _) (by simp)
 rw[Nat.zero_add,List.nil_append,HXS.out]at own8
 have OWN:=Lib.hid (Ar own8)
 obtain⟨p,c',hv⟩:=aQ own8
 subst hv
 clear own8 grow8 nil8
 go_ret
 have h9:=OWN.out
 rw[HNN.out]at h9 ⊢
 exact⟨⟨_,_,rfl,h9⟩,hb8⟩
theorem vh (vb g c:Nat) (d:ay) (w:World) (h:bq w vb d) (hn:d.nonces=0) (hr:d.root.size=32) (hg:ac w g [.int .i64 0, .int .i64 0] 55):
  Calls Tryz.prog 16 #[.pointer (some ⟨vb,0,none⟩), .slice (some ⟨g,0,none⟩) 1 c] w fun e w'=>e= .returned (.int .i64 0)∧∃(nonce:ByteArray) (v:Value),nonce.size=32∧bW w w' vb d (fh d nonce v 1):=by
 have HH:=Lib.hid h
 have HN:=Lib.hid hn
 have HR:=Lib.hid hr
 have HG:=Lib.hid hg
 clear h hg hn hr
 go_enter Tryz.func16,Tryz.ntmps16
 go_wp2_with fail
 refine(dV vb d _ HH.out).mono ?_
 rintro e w1 ⟨rfl,rfl⟩
 go_wp2_with fail
 go_loopw [20] (fun i wr=>∃k:Nat,k≤1∧i= .int .i64 k∧Below w.heap.size w wr) (fun i _=>1-(intOf i).toNat)
 case atStart=>exact⟨0,by omega,rfl,Below.refl _ _⟩
 case round=>
  obtain⟨k,hk,rfl,hbel⟩:=hrel
  have HRr:=Lib.hid hbel
  clear hbel
  by_cases hk0:k=0
  ·subst hk0
   have RG:=HG.out.below HRr.out HG.out.lt
   have r0:=RG.cell (i:=0) rfl
   have r1:=RG.cell (i:=1) rfl
   clear RG
   go_wp2_with (first
    |((with_reducible refine af 55 [.int .i64 0, .int .i64 0] u9 (some 6) ?hgd ?ho ?hd ?_);(case hgd|ho|hd=>rfl);(intro b5 w5 l5 B5 e5 z5))
    |((with_reducible refine ae 55 (.tmp 6) (.tmp 23) b5 [.int .i64 0, .int .i64 0] [.int .i64 0, .int .i64 0] 55 B5 rfl vd rh ?hgd ?ho ?hx ?hy ?_);(case hgd|ho|hx|hy=>rfl);(intro w6 B6 o6);have hb6:=o6.below (e5.mono l5) l5;have d0:=B6.cell (i:=0) rfl;have d1:=B6.cell (i:=1) rfl)
    |fail)
   go_roundw
   case rel=>exact⟨1,by omega,by go_num,HRr.out.trans (hb6.mono HRr.out.size)⟩
   case measure=>simp[intOf]
  ·obtain rfl:k=1:=by omega
   go_wp2_with fail
   refine(ri g c _ (HG.out.below HRr.out HG.out.lt)).mono ?_
   rintro e w2 ⟨⟨p,c',rfl,hown⟩,hb2⟩
   have HBB:=Lib.hid (HRr.out.trans (hb2.mono HRr.out.size))
   have HV2:=Lib.hid (HH.out.below HBB.out)
   have HO:=Lib.hid hown
   clear hb2 hown
   go_wp2_with fail
   refine(u7 vb d p 1 c' _ HV2.out HN.out HR.out HO.out).mono ?_
   rintro e w3 ⟨rfl,nonce,hq,hv3⟩
   have HQ:=Lib.hid hq
   have HV3:=Lib.hid (bW.ahead HBB.out hv3)
   clear hq hv3
   go_wp2_with fail
   go_ret
   exact⟨rfl,nonce,_,HQ.out,HV3.out⟩
theorem zS (root:ByteArray) (w:World) (hr:root.size=32):
  Calls Tryz.prog 36 #[.string root, .int .i64 0] w fun e w'=>(∃vb cb m1 m2,e= .returned (.tuple #[.pointer (some ⟨vb,0,none⟩), .int .i64 0])∧bq w' vb (dG root cb m1 m2)∧w.heap.size≤vb∧w.heap.size≤m2)∧Below w.heap.size w w':=by
 have hmm:=@run_makeMap Tryz.prog
 have HR:=Lib.hid hr
 have hBN:∀(p:Option Addr) (m1 m2 cb:Nat),p=some ⟨cb,0,none⟩→Tryz.prog.built 113 [(0, .string root),(1, .int .i64 0),(2, .pointer p),(3, .map (some m1)),(4, .map (some m2))]=some (dG root cb m1 m2).cells.toArray:=by intro p m1 m2 cb hp;subst hp;kernel_rfl
 clear hr
 go_enter Tryz.func36,Tryz.ntmps36
 go_wp2_with fail
 refine(fZ root 0 _).mono ?_
 rintro e w1 ⟨he,hb1⟩
 obtain⟨r,rfl,tr⟩:=he.yes (by have h32:root.data.toList.length=32:=HR.out;first|exact⟨by decide,by decide,h32⟩|(refine⟨?_, ?_, ?_⟩<;>first|exact h32|decide)|omega)
 have HB1:=Lib.hid hb1
 clear hb1 tr he
 go_wp2_with fail
 refine(jo 0 _ (by decide) (by decide)).mono ?_
 rintro e w2 ⟨⟨cb,rfl,_,_⟩,hb2⟩
 have HB2:=Lib.hid (HB1.out.trans (hb2.mono HB1.out.size))
 clear hb2
 go_wp2_with (first
  |((with_reducible refine ao 113 ?parts ((dG root cb w2.heap.size (w2.alloc (.map #[] 0)).heap.size).cells) ?hg ?ho ?hf ?_);(case hg|ho=>rfl);(case hf=>exact hBN _ _ _ _ rfl))
  |((with_reducible refine ai 113 (.tmp 28) ((dG root cb w2.heap.size (w2.alloc (.map #[] 0)).heap.size).cells) (some 29) ?hgd ?ho ?hd ?hx ?_);(case hgd|ho|hd|hx=>rfl);(intro b3 w3 l3 B3 e3 z3))
  |fail)
 go_ret2
 refine⟨⟨_,cb,w2.heap.size,w2.heap.size+1,rfl,⟨?_, ?_,World.ownsRow_nil _ _ _ _,World.ownsRow_nil _ _ _ _,fun k hk=>by cases hk⟩, ?_⟩, ?_⟩
 ·have:=ac.new ((w2.alloc (.map #[] 0)).alloc (.map #[] 0)) (dG root cb w2.heap.size (w2.alloc (.map #[] 0)).heap.size).cells 113
  simp at this
  exact this
 ·have e:w2.heap.size+1=(w2.alloc (.map #[] 0)).heap.size:=by simp
  show World.ownsMap _ _ _ _ (w2.heap.size+1) 0 _
  rw[e]
  exact(World.ownsMap_made (w2.alloc (.map #[] 0)) Tryz.prog 3 _).kept (below_grown ((Below.refl _ _).alloc (Nat.le_refl _) _)) (by simp)
 ·have:=HB2.out.size;exact⟨by omega,by omega⟩
 ·exact HB2.out.trans ((((Below.refl _ _).alloc HB2.out.size _).alloc (by have:=HB2.out.size;simp;omega) _).alloc (by have:=HB2.out.size;simp;omega) _)
theorem Cb (vb:Nat) (d:ay) (m:aa) (p1 p2:Option Addr) (c1 c2:Nat) (w:World) (h:bq w vb d) (he:m.epoch=1):
  Calls Tryz.prog 125 #[.pointer (some ⟨vb,0,none⟩),m.v (.slice p1 0 c1) (.slice p2 0 c2)] w fun e w'=>e= .returned (.int .i64 0)∧bW w w' vb d {d with state:=2,epoch:=1}:=by
 have HH:=Lib.hid h
 have HE:=Lib.hid he
 have hw1:IntKind.i64.wrap 1=1:=by decide
 clear h he
 go_enter Tryz.func125,Tryz.ntmps125
 go_wp2_with (first
  |((with_reducible refine ai 73 (.tmp 1) (m.cells (.slice p1 0 c1) (.slice p2 0 c2)) (some 3) ?hgd ?ho ?hd ?hx ?_);(case hgd|ho|hd|hx=>rfl);(intro b0 w0 l0 B0 e0 z0))
  |fail)
 have HB0:=Lib.hid (show Below w.heap.size w w0 from e0.mono l0)
 have HX0:=Lib.hid B0
 have HV0:=Lib.hid (HH.out.below HB0.out)
 have HL0:=Lib.hid (show w.heap.size≤b0 from l0)
 clear B0 e0 l0 z0
 refine hb (fun w'=>w'.cell? ⟨b0,1,none⟩=some (.int .i64 1)∧w'.cell? ⟨vb,1,none⟩=some (.int .i64 0)) (⟨(by rw[←HE.out];exact HX0.out.drew.cell (i:=1) rfl),HV0.out.blk.drew.cell (i:=1) rfl⟩) fun hHeld=> ?_
 refine hp 0 ?_
 refine hp 1 ?_
 refine hp 2 ?_
 refine hp 3 ?_
 refine hp 4 ?_
 refine hp 5 ?_
 refine hp 6 ?_
 refine hp 7 ?_
 refine hc 8 fun K hK=> ?_
 go_simp
 refine(uq vb d _ HV0.out.drew).mono ?_
 rintro e w1 ⟨rfl,hb1⟩
 have hb1':Below w0.heap.size w0 w1:=((Below.refl _ _).drew).trans hb1
 have HX1:=Lib.hid (HX0.out.below hb1' HX0.out.lt)
 have HV1:=Lib.hid (HV0.out.below hb1')
 have HB1:=Lib.hid (HB0.out.trans (hb1'.mono HB0.out.size))
 clear hb1 hb1'
 (try go_wp2_with fail)
 refine hK.out _ _ (⟨(by rw[←HE.out];exact HX1.out.cell (i:=1) rfl),HV1.out.blk.cell (i:=1) rfl⟩) fun _=> ?_
 clear hK K hHeld
 rename_i hHeld
 (try go_frame)
 refine hp 9 ?_
 refine hp 10 ?_
 refine hd ?_
 clear hHeld
 go_upto_region 3 with fail
 refine hb (fun w'=>w'.cell? ⟨b0,1,none⟩=some (.int .i64 1)∧w'.cell? ⟨vb,1,none⟩=some (.int .i64 0)) (⟨(by rw[←HE.out];exact HX1.out.drew.cell (i:=1) rfl),HV1.out.blk.drew.cell (i:=1) rfl⟩) fun hHeld=> ?_
 refine hp 0 ?_
 refine hp 1 ?_
 refine hp 2 ?_
 refine hp 3 ?_
 refine hp 4 ?_
 refine hp 5 ?_
 refine hp 6 ?_
 refine hp 7 ?_
 refine hp 8 ?_
 refine hd ?_
 clear hHeld
 obtain⟨w2,hw2⟩:∃x,x=w1.drew:=⟨_,rfl⟩
 have hb2:Below w1.heap.size w1 w2:=by rw[hw2];exact(Below.refl _ _).drew
 have HX2:=Lib.hid (HX1.out.below hb2 HX1.out.lt)
 have HV2:=Lib.hid (HV1.out.below hb2)
 have HB2:=Lib.hid (HB1.out.trans (hb2.mono HB1.out.size))
 rw[←hw2]
 clear hw2 hb2
 have x1:w2.cell? ⟨b0,1,none⟩=some (.int .i64 1):=by rw[←HE.out];exact HX2.out.cell (i:=1) rfl
 have B2:=HV2.out.blk
 go_wp2_with (first
  |((with_reducible refine aj 3 (.tmp 31) (.tmp 28) vb 10 (.int .i64 1) _ _ B2 (Nat.le_of_ble_eq_true rfl) (by kernel_rfl) rfl ?hgd ?ho ?hx ?hy ?_);(case hgd|ho|hx|hy=>rfl);(intro w3 B3 o3))
  |((with_reducible refine aj 3 (.tmp 34) (.const (.int .i64 2)) vb 6 (.int .i64 2) _ _ B3 (Nat.le_of_ble_eq_true rfl) (by kernel_rfl) rfl ?hgd ?ho ?hx ?hy ?_);(case hgd|ho|hx|hy=>rfl);(intro w4 B4 o4))
  |fail)
 go_ret
 refine⟨rfl, ?_⟩
 have t1:=HV2.out.put ((o3.turned (S:=[vb]) (by simp)).trans (o4.turned (by simp))) (d':={d with state:=2,epoch:=1}) B4
 exact bW.ahead HB2.out t1
theorem rj (vb:Nat) (d:ay) (w:World) (h:bq w vb d) (hl:d.l=[]) (hs:d.head.seq=1):
  Calls Tryz.prog 237 #[.pointer (some ⟨vb,0,none⟩)] w fun e w'=>e= .returned (.tuple #[])∧Below w.heap.size w w':=by
 obtain⟨pl,cl,hpl⟩:=aQ h.rows
 rw[hl]at hpl
 have v52:w.drew.cell? ⟨vb,52,none⟩=some (.slice pl 0 cl):=by rw[show(0:Nat)=([]:List ax).length from rfl,←hpl];exact h.blk.drew.cell (i:=52) rfl
 have v13:w.drew.cell? ⟨vb,13,none⟩=some (.int .i64 1):=by rw[←hs];exact h.blk.drew.cell (i:=13) rfl
 have H52:=Lib.hid v52
 have H13:=Lib.hid v13
 clear h hl hs hpl v52 v13
 go_enter Tryz.func237,Tryz.ntmps237
 go_upto_region 0 with fail
 refine hb (fun w'=>w'.cell? ⟨vb,52,none⟩=some (.slice pl 0 cl)∧w'.cell? ⟨vb,13,none⟩=some (.int .i64 1)) (⟨H52.out,H13.out⟩) fun hHeld=> ?_
 refine hp 0 ?_
 refine hp 1 ?_
 refine hp 2 ?_
 refine hp 3 ?_
 refine hp 4 ?_
 refine hp 5 ?_
 refine hp 6 ?_
 refine hp 7 ?_
 refine hp 8 ?_
 refine hp 9 ?_
 refine hp 10 ?_
 refine hp 11 ?_
 refine hp 12 ?_
 refine hd ?_
 clear hHeld
 go_wp2_with fail
 (try simp only[Exit.inBlock,Exit.then]);refine bodyPost_ret (results_none rfl _ _ _) rfl ?_
 exact⟨rfl,(Below.refl _ _).drew⟩
theorem qu (vb:Nat) (d:ay) (m:aa) (p1 p2:Option Addr) (c1 c2:Nat) (w:World) (h:bq w vb d) (hr:d.root.size=32) (he:m.epoch=1) (htm:bc m) (hto:m.told=ar.zero) (hok:(al m.kind&&aM ({m with tag:=m.nonce}:aa))=true) (htg:ak m.tag (jj (iV d.root.data.toList 0 1) m)) (hna:d.na=1) (hsq:m.seq=1) (hl:d.l=[]) (hbk:d.bk=none):
  Calls Tryz.prog 126 #[.pointer (some ⟨vb,0,none⟩),m.v (.slice p1 0 c1) (.slice p2 0 c2)] w fun e w'=>e= .returned (.int .i64 0)∧∃k,bW w w' vb d {d with state:=3,head:=m,hu:= .slice p1 0 c1,hl:= .slice p2 0 c2,bk:=some k,bep:=0,bnow:=0}∧k.bb≠k.c2:=by
 have HH:=Lib.hid h
 have HR:=Lib.hid hr
 have HE:=Lib.hid he
 have HTM:=Lib.hid htm
 have HTO:=Lib.hid hto
 have HOK:=Lib.hid hok
 have HTG:=Lib.hid htg
 have HNA:=Lib.hid hna
 have HSQ:=Lib.hid hsq
 have HL:=Lib.hid hl
 have HBK:=Lib.hid hbk
 clear h hr he htm hto hok htg hna hsq hl hbk
 go_enter Tryz.func126,Tryz.ntmps126
 go_wp2_with (first
  |((with_reducible refine ai 73 (.tmp 1) (m.cells (.slice p1 0 c1) (.slice p2 0 c2)) (some 3) ?hgd ?ho ?hd ?hx ?_);(case hgd|ho|hd|hx=>rfl);(intro b0 w0 l0 B0 e0 z0))
  |fail)
 have HB0:=Lib.hid (show Below w.heap.size w w0 from e0.mono l0)
 have HX0:=Lib.hid B0
 have HV0:=Lib.hid (HH.out.below HB0.out)
 have HL0:=Lib.hid (show w.heap.size≤b0 from l0)
 clear B0 e0 l0 z0
 refine hb (fun w'=>w'.rangeAt b0 0 (m.cells (.slice p1 0 c1) (.slice p2 0 c2))∧w'.cell? ⟨b0,4,none⟩=some (.string m.tag)) (⟨HX0.out.drew.range,HX0.out.drew.cell (i:=4) rfl⟩) fun hHeld=> ?_
 obtain⟨w1,hw1⟩:∃x,x=w0.drew:=⟨_,rfl⟩
 have hb1:Below w0.heap.size w0 w1:=by rw[hw1];exact(Below.refl _ _).drew
 have HX1:=Lib.hid (HX0.out.below hb1 HX0.out.lt)
 have HV1:=Lib.hid (HV0.out.below hb1)
 have HB1:=Lib.hid (HB0.out.trans (hb1.mono HB0.out.size))
 rw[←hw1]
 rw[←hw1]at hHeld
 clear hw1 hb1
 refine hp 0 ?_
 refine hl 1 73 b0 0 (m.cells (.slice p1 0 c1) (.slice p2 0 c2)) (fun w h=>h.1) Tryz.underlying73 ap ?_
 refine hp 3 ?_
 refine hp 4 ?_
 refine hc 2 fun K hK=> ?_
 go_simp
 refine(qt vb d m _ _ 1 _ HV1.out HR.out (by decide) (by rw[HE.out];rfl) HTM.out (by rw[HTO.out];exact .inl ⟨rfl,_,_,rfl⟩) (by rw[HTO.out];exact .inl ⟨rfl,_,_,rfl⟩) HOK.out).mono ?_
 rintro e w2 ⟨⟨q,rfl,hq⟩,hb2⟩
 have heq:q=m.tag:=by have h1:=hq;have h2:=HTG.out;unfold ak at h1 h2;exact ByteArray.ext (Array.ext' (by rw[h1,h2]))
 subst heq
 have H32:=Lib.hid (show m.tag.size=32 by rw[HTG.out.size];exact dR _ _)
 have HX2:=Lib.hid (HX1.out.below hb2 HX1.out.lt)
 have HV2:=Lib.hid (HV1.out.below hb2)
 have HB2:=Lib.hid (HB1.out.trans (hb2.mono HB1.out.size))
 clear hb2 hq
 (try go_wp2_with fail)
 refine hK.out _ _ (⟨HX2.out.range,HX2.out.cell (i:=4) rfl⟩) fun _=> ?_
 clear hK K hHeld
 rename_i hHeld
 (try go_frame)
 refine hc 5 fun K hK=> ?_
 go_simp
 refine(kg m.tag m.tag _ (by have:=H32.out;omega) rfl).mono ?_
 rintro e w3 ⟨rfl,hb3⟩
 rw[decide_eq_true rfl]
 have HX3:=Lib.hid (HX2.out.below hb3 HX2.out.lt)
 have HV3:=Lib.hid (HV2.out.below hb3)
 have HB3:=Lib.hid (HB2.out.trans (hb3.mono HB2.out.size))
 clear hb3
 (try go_wp2_with fail)
 refine hK.out _ _ (⟨HX3.out.range,HX3.out.cell (i:=4) rfl⟩) fun _=> ?_
 clear hK K hHeld
 rename_i hHeld
 (try go_frame)
 refine hp 6 ?_
 refine hd ?_
 clear hHeld
 have B2:=HV3.out.blk
 go_upto_region 4 with(first
  |((with_reducible refine ag 73 (.tmp 3) b0 0 (m.cells (.slice p1 0 c1) (.slice p2 0 c2)) _ (some 15) (HX3.out.range) Tryz.underlying73 rfl ap ?hg ?ho ?hds ?hx ?_);(case ho|hg|hds|hx=>rfl))
  |((with_reducible refine bG 73 (.tmp 18) (.tmp 15) vb 11 (m.cells (.slice p1 0 c1) (.slice p2 0 c2)) _ _ B2 (Nat.le_of_ble_eq_true rfl) ap (cr ⟨_,_,rfl⟩ ⟨_,_,rfl⟩) ?hgd ?ho ?hx ?hy ?_);(case hgd|ho|hx|hy=>rfl);(intro w4 B4 o4))
  |fail)
 have V4:=Lib.hid (HV3.out.only o4 (d':={d with head:=m,hu:= .slice p1 0 c1,hl:= .slice p2 0 c2}) B4)
 have HXw:=Lib.hid (o4.blk HX3.out (by have:=HX0.out.lt;have:=HH.out.blk.lt;have:=HL0.out;omega))
 clear B2 B4 o4
 have hask:=V4.out.at'.asks
 simp only[HNA.out]at hask
 obtain⟨ga,ca,hga⟩:∃g c,d.asks= .slice (some ⟨g,0,none⟩) 1 c:=by
  rcases hask.2 with⟨_,h0⟩|⟨g,cap,cur,hh,_⟩
  ·cases h0
  ·exact⟨g,cap,hh⟩
 rw[hga]at hask
 have HQ:=Lib.hid (show w4.ownsRow 0 55 2 (.slice (some ⟨ga,0,none⟩) 1 ca) 1 [.int .i64 0, .int .i64 0]from hask)
 have v9:w4.cell? ⟨vb,9,none⟩=some (.slice (some ⟨ga,0,none⟩) 1 ca):=by rw[←hga];exact V4.out.at'.blk.cell (i:=9) rfl
 clear hask hga
 go_wp2_with fail
 go_loopw [25] (fun i wr=>∃k:Nat,k≤1∧i= .int .i64 k∧Below w4.heap.size w4 wr) (fun i _=>1-(intOf i).toNat)
 case atStart=>exact⟨0,by omega,rfl,Below.refl _ _⟩
 case round=>
  obtain⟨k,hk,rfl,hbel⟩:=hrel
  have HBr:=Lib.hid hbel
  clear hbel
  by_cases hk0:k=0
  ·subst hk0
   have hq:=own_below HBr.out HQ.out
   have r0:wr.cell? ⟨ga,0,none⟩=some (.int .i64 0):=World.ownsRow.cellAt hq 0 (by decide)
   have r1:wr.cell? ⟨ga,1,none⟩=some (.int .i64 0):=World.ownsRow.cellAt hq 1 (by decide)
   clear hq
   go_upto_region 7 with(first
    |((with_reducible refine af 55 [.int .i64 0, .int .i64 0] u9 (some 6) ?hgd ?ho ?hd ?_);(case hgd|ho|hd=>rfl);(intro b6 w5 l5 B5 e5 z5))
    |((with_reducible refine ae 55 (.tmp 6) (.tmp 28) b6 [.int .i64 0, .int .i64 0] [.int .i64 0, .int .i64 0] 55 B5 rfl vd rh ?hgd ?ho ?hx ?hy ?_);(case hgd|ho|hx|hy=>rfl);(intro w6 B6 o6))
    |fail)
   have hb6:=HBr.out.trans ((o6.below (e5.mono l5) l5).mono HBr.out.size)
   have HB6:=Lib.hid hb6
   have HA6:=Lib.hid B6
   have HX6:=Lib.hid (HXw.out.below hb6 HXw.out.lt)
   have HV6:=Lib.hid (V4.out.at'.below hb6)
   clear B5 l5 e5 z5 B6 o6 hb6 r0 r1
   refine hb (fun w'=>w'.cell? ⟨b6,0,none⟩=some (.int .i64 0)∧w'.cell? ⟨b0,1,none⟩=some (.int .i64 1)∧w'.cell? ⟨vb,1,none⟩=some (.int .i64 0)) (⟨HA6.out.drew.cell (i:=0) rfl,(by rw[←HE.out];exact HX6.out.drew.cell (i:=1) rfl),HV6.out.blk.drew.cell (i:=1) rfl⟩) fun hHeld=> ?_
   refine hp 0 ?_
   refine hp 1 ?_
   refine hp 2 ?_
   refine hp 3 ?_
   refine hp 4 ?_
   refine hp 5 ?_
   refine hp 6 ?_
   refine hp 7 ?_
   refine hp 8 ?_
   refine hp 9 ?_
   refine hp 10 ?_
   refine hp 11 ?_
   refine hp 12 ?_
   refine hp 13 ?_
   refine hd ?_
   clear hHeld
   go_wp2_with fail
   go_roundw
   case rel=>exact⟨1,by omega,by go_num,HB6.out.drew⟩
   case measure=>simp[intOf]
  ·obtain rfl:k=1:=by omega
   have HVr:=Lib.hid (V4.out.at'.below HBr.out)
   have VTr:=Lib.hid (bW.ahead HB3.out (V4.out.below HBr.out))
   have B5:=HVr.out.blk
   have v1:wr.cell? ⟨vb,1,none⟩=some (.int .i64 0):=HVr.out.blk.cell (i:=1) rfl
   go_wp2_with (first
    |((with_reducible refine aj 3 (.tmp 51) (.const (.int .i64 3)) vb 6 (.int .i64 3) _ _ B5 (Nat.le_of_ble_eq_true rfl) (by kernel_rfl) rfl ?hgd ?ho ?hx ?hy ?_);(case hgd|ho|hx|hy=>rfl);(intro w6 B6 o6);have v1:w6.cell? ⟨vb,1,none⟩=some (.int .i64 0):=B6.cell (i:=1) rfl)
    |fail)
   have V6:=Lib.hid (VTr.out.trans (HVr.out.only o6 (d':={d with state:=3,head:=m,hu:= .slice p1 0 c1,hl:= .slice p2 0 c2}) B6))
   clear B5 B6 o6
   refine(nQ 0 _ (by decide) (by decide)).mono ?_
   rintro e w7 ⟨⟨bb,c2',m1,m2,m3,rfl,hB,hC,lbb,lcb,hM,lm1,lm2,lm3⟩,hb7⟩
   have HK7:=Lib.hid (show m9 w7 ⟨bb,c2',m1,m2,m3⟩ 0 0 from⟨hB,hC,hM⟩)
   have HNE:=Lib.hid (show bb≠c2' from fun e=>absurd (hB.ty.eq (e ▸ hC.ty)) (by decide))
   have HLO:=Lib.hid (show w6.heap.size≤bb∧w6.heap.size≤c2'∧w6.heap.size≤m1∧w6.heap.size≤m2∧w6.heap.size≤m3 from⟨lbb,lcb,lm1,lm2,lm3⟩)
   have HV7:=Lib.hid (V6.out.at'.below hb7)
   have HB7:=Lib.hid hb7
   have B7:=HV7.out.blk
   clear hB hC hM lbb lcb lm1 lm2 lm3 hb7
   go_wp2_with (first
    |((with_reducible refine aj 107 (.tmp 63) (.tmp 59) vb 53 (.pointer (some ⟨bb,0,none⟩)) _ _ B7 (Nat.le_of_ble_eq_true rfl) (by kernel_rfl) rfl ?hgd ?ho ?hx ?hy ?_);(case hgd|ho|hx|hy=>rfl);(intro w8 B8 o8))
    |fail)
   have hS:=bZ.one HV7.out.blk.ty
   have t8:ab [vb] w7 w8:=o8.turned (by simp)
   have A8:=Lib.hid (show bq w8 vb {d with state:=3,head:=m,hu:= .slice p1 0 c1,hl:= .slice p2 0 c2,bk:=some ⟨bb,c2',m1,m2,m3⟩,bep:=0,bnow:=0} from
    ⟨B8,dU HV7.out.map t8 (gB HV7.out.map hS),aB HV7.out.asks t8 (fun k hk=>(aV HV7.out.asks hk).notin hS (by decide)),aB HV7.out.rows t8 (fun k hk=>(aV HV7.out.rows hk).notin hS (by decide)),fun k hk=>by
     injection hk with hk;subst hk;exact HK7.out.turned t8 hS (by decide) (by decide)⟩)
   have V8:=Lib.hid (show bW w w8 vb d {d with state:=3,head:=m,hu:= .slice p1 0 c1,hl:= .slice p2 0 c2,bk:=some ⟨bb,c2',m1,m2,m3⟩,bep:=0,bnow:=0} from
    ⟨A8.out,(V6.out.turned.trans (ab.of_below HB7.out (by have:=V6.out.turned.size;omega))).trans (t8.mono (fun x hx=>by simp at hx;subst hx;simp[ay.foot])),fun x hx=>by
     have hz:=V6.out.turned.size
     have hlo:=HLO.out
     simp only[ay.foot,lO,kP.foot,List.mem_cons,List.mem_append,List.mem_nil_iff,or_false]at hx ⊢
     rcases hx with hx|(hx|hx|hx|hx|hx)|hx
     ·exact .inl (.inl hx)
     ·subst hx;exact .inr (by omega)
     ·subst hx;exact .inr (by omega)
     ·subst hx;exact .inr (by omega)
     ·subst hx;exact .inr (by omega)
     ·subst hx;exact .inr (by omega)
     ·exact .inl (.inr (.inr hx))⟩)
   clear B7 B8 o8 t8 hS
   refine(rj vb _ _ A8.out HL.out HSQ.out).mono ?_
   rintro e w9 ⟨rfl,hb9⟩
   have V9:=Lib.hid (V8.out.below hb9)
   clear hb9
   go_wp2_with fail
   go_ret
   exact⟨rfl,_,V9.out,HNE.out⟩
theorem lY (i:aR) (v:bf) (ep:Int) (w:World) (h:aP w i v) (e0:0≤ep) (e1:ep≤4294967295) (hE:je v.vers ep=[]) (hvn:v.vers.length≤4096):
  Calls Tryz.prog 99 #[.pointer (some ⟨i.vb,0,none⟩), .int .i64 ep] w fun e w'=>(∃ps B,e= .returned (.tuple #[.pointer (some ⟨ps,0,none⟩), .int .i64 0])∧iM w' ps B 0 ep (.map []))∧Below w.heap.size w w':=by
 have HE:=Lib.hid hE
 have HVN:=Lib.hid hvn
 have HEP:=Lib.hid (show 0≤ep∧ep≤4294967295 from⟨e0,e1⟩)
 have H0:=Lib.hid h
 clear h hE hvn e0 e1
 go_enter Tryz.func99,Tryz.ntmps99
 go_wp2_with fail
 refine(wZ ep _ HEP.out.1 HEP.out.2).mono ?_
 rintro e w1 ⟨⟨ps,B,rfl,hs1,hB,hps⟩,hb1⟩
 have HS1:=Lib.hid hs1
 have HBE1:=Lib.hid hb1
 have H1:=Lib.hid (H0.out.below hb1)
 have v3:w1.cell? ⟨i.vb,3,none⟩=some (.pointer (some ⟨i.xb,0,none⟩)):=H1.out.vol.cell (i:=3) rfl
 clear hs1 hB hps hb1
 go_wp2_with fail
 refine(xg i.xb _ i.xv v.vers ep _ H1.out.index H1.out.vers rfl HVN.out (by rw[HE.out];exact Nat.zero_le _)).mono ?_
 rintro e w2 ⟨⟨ve,rfl,hve⟩,hb2⟩
 rw[HE.out]at hve
 obtain⟨pe,ce,rfl⟩:=aQ hve
 have HBE2:=Lib.hid (HBE1.out.trans (hb2.mono HBE1.out.size))
 have HS2:=Lib.hid (HS1.out.below hb2)
 clear v3 hve hb2
 simp only[List.length_nil]
 go_wp2_with fail
 go_loopw [24] (fun k wr=>k= .int .i64 0∧wr=w2) (fun k _=>0)
 case atStart=>exact⟨rfl,rfl⟩
 case round=>
  obtain⟨rfl,rfl⟩:=hrel
  go_wp2_with fail
  go_ret2
  exact⟨⟨ps,B,rfl,HS2.out⟩,HBE2.out⟩
theorem ij:∀k,bS (fun _=>none) k=[]
 |0=>rfl
 |k+1=>by rw[oN rfl,ij k]
theorem Cc (i:aR) (v:bf) (e0:0≤v.epoch) (e1:v.epoch≤4294967295) (hE:je v.vers v.epoch=[]) (hvn:v.vers.length≤4096):zy i v 0 (de []):=by
 refine⟨by decide,by decide,cJ _,fun w ps=>∃B,iM w ps B 0 v.epoch (.map []),fun wx hx'=> ?_, ?_, ?_⟩
 ·refine(lY i v v.epoch wx hx' e0 e1 hE hvn).mono ?_
  rintro e w' ⟨⟨ps,B,he,hs⟩,hb'⟩
  exact⟨⟨ps,he,B,hs⟩,hb'⟩
 ·rintro wx ps ⟨B,hs⟩
  exact sO ps B 0 v.epoch _ wx hs
 ·rintro wx ps ⟨B,hs⟩
  have hr:=uJ ps B 0 v.epoch (.map []) (fun _=>none) wx hs jU.none jE.none (by rw[ij];exact Nat.zero_le _)
  rw[ij]at hr
  exact hr
theorem xB (db n ep:Nat) (lbas:Int) (v:Value) (key data kb q:ByteArray) (w:World) (hg:dx ⟨(n:Int),lbas,(ep:Int)⟩) (hk:key.size=32) (tk:ak kb (fi (ep:Int) key.data.toList)) (tq:ak q (eB ⟨1,0,ep,0,⟨(n:Int),lbas,(ep:Int)⟩⟩))
  (hdata:data.size=16) (h:az w db (bC n v (2+ep % 2) kb q)):
  Calls Tryz.prog 44 #[.pointer (some ⟨db,0,none⟩), .string data] w fun e w'=>(∃vb jb sb xb bb cb c2 m1 m2 m3,e= .returned (.tuple #[.pointer (some ⟨vb,0,none⟩), .int .i64 0])∧eW w' w.heap.size vb jb sb db xb bb cb c2 m1 m2 m3 none key data 1 0 n lbas ep ep (bC n v (2+ep % 2) kb q))∧Below w.heap.size w w':=by
 have HM:=Lib.hid (zi db n ep none lbas v key data kb q w hg hk tk tq hdata h)
 clear h hdata tq tk hk hg
 go_enter Tryz.func44,Tryz.ntmps44
 go_wp2_with fail
 refine HM.out.mono ?_
 rintro e w1 ⟨⟨vb,jb,sb,xb,bb,cb,c2,m1,m2,m3,rfl,hv⟩,hb⟩
 have HV:=Lib.hid hv
 have HB:=Lib.hid hb
 clear hv hb
 go_wp2_with fail
 go_ret2
 exact⟨⟨vb,jb,sb,xb,bb,cb,c2,m1,m2,m3,rfl,HV.out⟩,HB.out⟩
theorem vj (db n ep:Nat) (lbas:Int) (v:Value) (root:ByteArray) (w:World) (hg:dx ⟨(n:Int),lbas,(ep:Int)⟩) (hr:root.size=32) (h:az w db (ba n v)):
  Calls Tryz.prog 35 #[.pointer (some ⟨db,0,none⟩),(⟨(n:Int),lbas,(ep:Int)⟩:aK).v, .string root] w fun e w'=>∃(vb jb sb xb bb cb c2 m1 m2 m3:Nat) (key data kb q:ByteArray),e= .returned (.tuple #[.pointer (some ⟨vb,0,none⟩), .int .i64 0])∧
   ak data (nX root.data.toList [100,97,116,97] 16)∧ak key (dw root.data.toList [115,101,97,108] [ep])∧ak kb (fi (ep:Int) key.data.toList)∧ak q (eB ⟨1,0,ep,0,⟨(n:Int),lbas,(ep:Int)⟩⟩)∧
   bg w w' db (ba n v) (bC n v (2+ep % 2) kb q)∧eW w' w.heap.size vb jb sb db xb bb cb c2 m1 m2 m3 none key data 1 0 n lbas ep ep (bC n v (2+ep % 2) kb q):=by
 obtain⟨g,Hg⟩:∃g,Hid (g=(⟨(n:Int),lbas,(ep:Int)⟩:aK)):=⟨_,rfl⟩
 have HGF:=Lib.hid (show g.first=(ep:Int) by rw[Hg.out])
 have HDw:=Lib.hid h
 have HG0:=Lib.hid hg
 have HEP:=Lib.hid (show(ep:Int)≤4294967295 from by have:=hg.f1;simp only at this;omega)
 have HR:=Lib.hid hr
 have hfo:∀(wx:World) (key:ByteArray),key.size=32→az wx db (ba n v)→Calls Tryz.prog 78 #[.pointer (some ⟨db,0,none⟩), .agg g.cells.toArray, .string key] wx fun e w'=>e= .returned (.int .i64 0)∧∃kb q,ak kb (fi (ep:Int) key.data.toList)∧ak q (eB ⟨1,0,ep,0,(⟨(n:Int),lbas,(ep:Int)⟩:aK)⟩)∧bg wx w' db (ba n v) (bC n v (2+ep % 2) kb q):=by
  intro wx key hk hx
  rw[Hg.out]
  exact wM db n ep lbas v key wx hx hg hk
 have HFO:=Lib.hid hfo
 rw[←Hg.out]
 have HGG:=Lib.hid (show dx g from by rw[Hg.out];exact hg)
 clear h hg hr hfo
 go_enter Tryz.func35,Tryz.ntmps35
 go_wp2_with (first
  |((with_reducible refine ai 31 (.tmp 1) g.cells (some 4) ?hgd ?ho ?hd ?hx ?_);(case hgd|ho|hd|hx=>rfl);(intro b4 wa l4 B4 e4 z4))
  |fail)
 have HBEa:=Lib.hid (e4.mono l4)
 have HBa:=Lib.hid B4
 have HL4:=Lib.hid l4
 have HDa:=Lib.hid (HDw.out.below HBEa.out)
 clear B4 e4 z4 l4
 refine(vQ root _).mono ?_
 rintro e wb ⟨he,hbb⟩
 obtain⟨data,rfl,td⟩:=he.yes HR.out
 have HTD:=Lib.hid td
 have HBb:=Lib.hid (HBa.out.below hbb HBa.out.lt)
 have HBEb:=Lib.hid (HBEa.out.trans (hbb.mono HBEa.out.size))
 have HDb:=Lib.hid (HDa.out.below hbb)
 clear hbb td he
 go_wp2_with (first
  |((with_reducible refine au 31 (.tmp 4) b4 g.cells 31 _ HBb.out Tryz.underlying31 rfl bP ?hgd ?ho ?hx ?_);(case hgd|ho|hx=>rfl))
  |fail)
 refine(eJ g _ HGG.out).mono ?_
 rintro e wc ⟨rfl,hbc⟩
 have HBc:=Lib.hid (HBb.out.below hbc HBb.out.lt)
 have HBEc:=Lib.hid (HBEb.out.trans (hbc.mono HBEb.out.size))
 have HDc:=Lib.hid (HDb.out.below hbc)
 have q2:wc.cell? ⟨b4,2,none⟩=some (.int .i64 (ep:Int)):=by rw[←HGF.out];exact HBc.out.cell (i:=2) rfl
 clear hbc
 go_wp2_with fail
 refine(fZ root (ep:Int) _).mono ?_
 rintro e wd ⟨he,hbd⟩
 obtain⟨key,rfl,tk⟩:=he.yes ⟨by omega,HEP.out,HR.out⟩
 have HTK:=Lib.hid (show ak key (dw root.data.toList [115,101,97,108] [ep])from tk.cast (by rw[Int.toNat_natCast]))
 have HBd:=Lib.hid (HBc.out.below hbd HBc.out.lt)
 have HBEd:=Lib.hid (HBEc.out.trans (hbd.mono HBEc.out.size))
 have HDd:=Lib.hid (HDc.out.below hbd)
 clear hbd tk he q2
 go_wp2_with (first
  |((with_reducible refine au 31 (.tmp 4) b4 g.cells 31 _ HBd.out Tryz.underlying31 rfl bP ?hgd ?ho ?hx ?_);(case hgd|ho|hx=>rfl))
  |fail)
 have HKS:=Lib.hid (show key.size=32 from by rw[HTK.out.size,fE])
 have HDS:=Lib.hid (show data.size=16 from by rw[HTD.out.size,uO])
 refine(HFO.out _ key HKS.out HDd.out).mono ?_
 rintro e we ⟨rfl,kb,q,tkb,tq,hdt⟩
 have HTKB:=Lib.hid tkb
 have HTQ:=Lib.hid tq
 have HDT:=Lib.hid hdt
 clear tkb tq hdt
 go_wp2_with fail
 refine(xB db n ep lbas v key data kb q _ HG0.out HKS.out HTKB.out HTQ.out HDS.out HDT.out.at').mono ?_
 rintro e wf ⟨⟨vb,jb,sb,xb,bb,cb,c2,m1,m2,m3,rfl,hv⟩,hbf⟩
 have HV:=Lib.hid hv
 have HDF:=Lib.hid (bg.ahead HBEd.out (HDT.out.below hbf))
 have HSZ:=Lib.hid (show w.heap.size≤we.heap.size from Nat.le_trans HBEd.out.size HDT.out.turned.size)
 clear hv hbf
 go_wp2_with fail
 go_ret2
 exact⟨vb,jb,sb,xb,bb,cb,c2,m1,m2,m3,key,data,kb,q,rfl,HTD.out,HTK.out,HTKB.out,(by rw[Hg.out];exact HTQ.out),HDF.out,HV.out.lower HSZ.out⟩
def bV:List Value:=[.int .i64 0, .int .i64 0, .bool false, .bool false, .int .i64 0, .int .i64 0, .string ⟨#[]⟩, .int .i64 0, .string ⟨#[]⟩, .slice none 0 0, .slice none 0 0, .int .i64 0, .string ⟨#[]⟩]
theorem kV (w:World):(zeroValue 69).run Tryz.prog w= .ok (.agg bV.toArray) w:=by kernel_rfl
theorem eY:(Tryz.prog.info? 69).map (·.size)=some bV.length:=by kernel_rfl
theorem mB:∀v∈bV,v.oneCell'=true:=List.all_eq_true.1 (show(bV.all fun v=>v.oneCell')=true from rfl)
def E3:List Value:=[.int .i64 0, .int .i64 0, .int .i64 0, .int .i64 0, .int .i64 0, .int .i64 0]
def eA (e:Int):List Value:=[.int .i64 e, .string ⟨#[]⟩]++E3
theorem rk (w:World):(zeroValue 43).run Tryz.prog w= .ok (.agg (eA 0).toArray) w:=by kernel_rfl
theorem jk {e:Int}:(Tryz.prog.info? 43).map (·.size)=some (eA e).length:=by kernel_rfl
theorem rl (e:Int):∀v∈eA e,v.oneCell'=true:=by intro v hv;simp[eA,E3]at hv;rcases hv with rfl|rfl|rfl<;>rfl
theorem kW (e:Int):Tryz.prog.built 43 [(0, .int .i64 e)]=some (eA e).toArray:=by kernel_rfl
end Go.Proofs.YtngiibgdgenidaaGreat
