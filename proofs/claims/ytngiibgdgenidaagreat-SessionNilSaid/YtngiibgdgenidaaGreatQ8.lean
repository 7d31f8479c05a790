/- The shape of a shape's bytes (chapter 9): Take. The net between a verifier and a volume (chapter 30), with no letter and with one. A disk in memory (chapter 8): what it has, and what becomes of it where other blocks turn. -/
import Derived.Test.YtngiibgdgenidaaGreatQ7
import Derived.Test.YtngiibgdgenidaaGreatQ2
import Derived.Deep.RegionHeld3
import Derived.Test.YtngiibgdgenidaaGreatQ4
import Derived.Deep.DeepAppendWide
import Derived.Lib.SliceRun
import Derived.Deep.RegionWith
import Derived.Deep.RegionLaw
import Derived.Carry
import Derived.OrdersHeld
set_option linter.unusedSimpArgs false
set_option linter.unusedVariables false
set_option maxRecDepth 100000
set_option maxHeartbeats 4000000
namespace Go.Proofs.YtngiibgdgenidaaGreat
open Go Go.RowKit
theorem eo {w n:Nat} {ws:List Nat} {l:List UInt8} (h1:1≤w) (h8:w≤8) (hn:n<256^w) (h63:n<9223372036854775808):bn (w::ws) (beBytes w n++l)=(bn ws l).map ((n:Int)::·):=by
 have e1:(beBytes w n++l).take w=beBytes w n:=jm (beBytes_length w n)
 have e2:(beBytes w n++l).drop w=l:=jn (beBytes_length w n)
 have hb:=ei w n hn
 conv=>lhs;unfold bn
 rw[e1,e2,if_pos (jK.2 ⟨by rw[beBytes_length];exact h1,by rw[beBytes_length];exact h8,by rw[hb];exact h63⟩),hb]
theorem pj (l:List UInt8):bn [] l=some []:=by unfold bn;rfl
theorem yu {g:aK} (h:dx g):bn [4,4,4] (iW g)=some [g.blocks,g.lbas,g.first]:=by
 obtain⟨h1,h2,h3,h4,h5,h6⟩:=h
 have p4:(256:Nat)^4=4294967296:=rfl
 have e:iW g=beBytes 4 g.blocks.toNat++(beBytes 4 g.lbas.toNat++(beBytes 4 g.first.toNat++[])):=by unfold iW;simp
 rw[e,eo (by decide) (by decide) (by omega) (by omega),eo (by decide) (by decide) (by omega) (by omega),eo (by decide) (by decide) (by omega) (by omega),pj]
 simp only[Option.map_some]
 rw[show((g.blocks.toNat:Nat):Int)=g.blocks by omega,show((g.lbas.toNat:Nat):Int)=g.lbas by omega,show((g.first.toNat:Nat):Int)=g.first by omega]
theorem rK (w:World):Sem.run Tryz.prog (zeroValue 31) w= .ok (.agg (aK.zero.cells).toArray) w:=by kernel_rfl
theorem Ip (blocks lbas first:Int) (hb:blocks≠0) (w:World):(Op.equalIn 10000 31 (.agg #[.int .i64 blocks, .int .i64 lbas, .int .i64 first]) (.agg #[.int .i64 0, .int .i64 0, .int .i64 0])).run Tryz.prog w= .ok false w:=by
 have e:false=((blocks==0)&&((lbas==0)&&((first==0)&&true))):=by simp[hb]
 rw[e]
 refine iE (d:=9999) Tryz.underlying31 (by kernel_rfl) ?_
 refine eH (k:= .i64) (d:=9998) (by decide) (by kernel_rfl) (by kernel_rfl) Tryz.underlying3 ?_
 refine eH (k:= .i64) (d:=9998) (by decide) (by kernel_rfl) (by kernel_rfl) Tryz.underlying3 ?_
 refine eH (k:= .i64) (d:=9998) (by decide) (by kernel_rfl) (by kernel_rfl) Tryz.underlying3 ?_
 exact ki
theorem aL {fn:Func} {p u:Tmp} {ty:TypeId} {cs:List Value} {d:TypeDesc} (h:fn.results=#[.cell p ty, .tmp u]) (tmps:Array Value) (w:World) {b:Nat} (hb:w.rangeAt b 0 cs) (hp:tmps.getD p undef= .pointer (some ⟨b,0,none⟩))
  (hu:Tryz.prog.underlying ty=some d) (hd:d.isRow=true) (hi:(Tryz.prog.info? ty).map (·.size)=some cs.length):
  (results fn tmps).run Tryz.prog w= .ok (.tuple #[.agg cs.toArray,tmps.getD u undef]) w:=by
 have e:=run_loadVar_mid (P:=Tryz.prog) w b 0 ty cs _ hb hu hd hi
 rw[results_cell_tmp h,hp]
 simp only[asAddr,Sem.run_pure,Result.andThen_ok,e]
theorem tI (g:aK) (s:ByteArray) (w:World) (ht:ak s (iW g)) (hg:dx g):
  Calls Tryz.prog 393 #[.string s] w fun e w'=>e= .returned (.tuple #[g.v, .int .i64 0])∧Below w.heap.size w w':=by
 have hu0:=yu hg
 rw[←show s.data.toList= _ from ht]at hu0
 have hs:s.size=12:=by rw[ht.size,gV]
 obtain⟨blocks,lbas,first⟩:=g
 have HU0:=Lib.hid hu0
 have HT:=Lib.hid ht
 have HG:=Lib.hid hg
 have hb0:blocks≠0:=by have:=hg.b0;simp only at this;omega
 have HQ:=Lib.hid (Ip blocks lbas first hb0)
 clear hu0 ht hg hb0
 go_enter Tryz.func393,Tryz.ntmps393
 go_wp2_with (first
  |((with_reducible refine af 31 _ rK (some 2) ?hgd ?ho ?hd ?_);(case hgd|ho|hd=>rfl);(intro b2 w1 l1 B1 e1 z1))
  |fail)
 refine(iY _).mono ?_
 rintro e w2 ⟨⟨vw,rfl,hvw⟩,hb2⟩
 have HB2:=Lib.hid (B1.below hb2 z1)
 have HW2:=Lib.hid ((e1.mono l1).trans (hb2.mono (Nat.le_trans l1 (Nat.le_of_lt z1))))
 have HL:=Lib.hid l1
 have HVW:=Lib.hid hvw
 clear B1 e1 z1 hb2 hvw l1
 go_wp2_with fail
 refine(lI vw [4,4,4] s _ HVW.out (by intro k a h;match k,h with|0,h=>simp at h;omega|1,h=>simp at h;omega|2,h=>simp at h;omega|k+3,h=>simp at h) (by rw[hs];rfl) (by decide) (by decide)).mono ?_
 rintro e w3 ⟨he,hb3⟩
 rcases he with⟨ns,vo,hu,rfl,hown,_⟩|⟨hu,_⟩
 rotate_left
 ·exact absurd (HU0.out.symm.trans hu) (by simp)
 obtain rfl:[blocks,lbas,first]=ns:=Option.some.inj (HU0.out.symm.trans hu)
 obtain⟨gr,cap,z,rfl,hcap,hgg,hblk⟩:=dA hown (by simp)
 have HB3:=Lib.hid (HB2.out.below hb3 HB2.out.lt)
 have HW3:=Lib.hid (HW2.out.trans (hb3.mono HW2.out.size))
 have i0:w3.cell? ⟨gr,0,none⟩=some (.int .i64 blocks):=hblk.cell (i:=0) rfl
 have i1:w3.cell? ⟨gr,1,none⟩=some (.int .i64 lbas):=hblk.cell (i:=1) rfl
 have i2:w3.cell? ⟨gr,2,none⟩=some (.int .i64 first):=hblk.cell (i:=2) rfl
 have hgD:gr<w3.heap.size:=hblk.lt
 clear hb3 hu hown hcap hgg hblk
 go_wp2_with fail
 go_region_held3 (fun w'=>w'.cell? ⟨gr,0,none⟩=some (.int .i64 blocks)∧w'.cell? ⟨gr,1,none⟩=some (.int .i64 lbas)∧w'.cell? ⟨gr,2,none⟩=some (.int .i64 first)) (go_keep) (fail)
 all_goals
  have B6:ac (w3.alloc (Obj.cells #[.int .i64 blocks, .int .i64 lbas, .int .i64 first] 31)).drew w3.heap.size (aK.cells ⟨blocks,lbas,first⟩) 31:=ac.new w3 (aK.cells ⟨blocks,lbas,first⟩) 31
  have hb6:Below w3.heap.size w3 (w3.alloc (Obj.cells #[.int .i64 blocks, .int .i64 lbas, .int .i64 first] 31)).drew:=((Below.refl _ _).alloc (Nat.le_refl _) _).drew
  obtain⟨w6,hw6⟩:∃W,(w3.alloc (Obj.cells #[.int .i64 blocks, .int .i64 lbas, .int .i64 first] 31)).drew=W:=⟨_,rfl⟩
  rw[hw6]at B6 hb6 ⊢
  have HB6:=Lib.hid (HB3.out.below hb6 HB3.out.lt)
  have HW6:=Lib.hid (HW3.out.trans (hb6.mono HW3.out.size))
  have H6:=Lib.hid B6
  clear hw6 B6 hb6 i0 i1 i2 hgD
  go_wp2_with ((with_reducible refine au 31 (.tmp 6) w3.heap.size (aK.cells ⟨blocks,lbas,first⟩) 31 _ H6.out Tryz.underlying31 rfl bP ?hgd ?ho ?hx ?_);(case hgd|ho|hx=>rfl))
  refine(kJ ⟨blocks,lbas,first⟩ _ HG.out).mono ?_
  rintro e w7 ⟨r,rfl,tr,hb7⟩
  obtain rfl:r=s:=tr.eq HT.out
  have HB7:=Lib.hid (HB6.out.below hb7 HB6.out.lt)
  have HW7:=Lib.hid (HW6.out.trans (hb7.mono HW6.out.size))
  have H7:=Lib.hid (H6.out.below hb7 H6.out.lt)
  clear hb7 tr
  go_wp2_with (first
   |((with_reducible refine ag 31 (.tmp 6) w3.heap.size 0 (aK.cells ⟨blocks,lbas,first⟩) _ (some 41) H7.out.range Tryz.underlying31 rfl bP ?hg ?ho ?hds ?hx ?_);(case ho|hg|hds|hx=>rfl))
   |((with_reducible refine cQ 31 31 (.tmp 41) (.tmp 42) #[.int .i64 blocks, .int .i64 lbas, .int .i64 first] #[.int .i64 0, .int .i64 0, .int .i64 0] false (some 43) (by kernel_rfl) (HQ.out _) ?hg ?ho ?hd ?hx ?hy ?_);(case hg|ho|hd|hx|hy=>rfl))
   |((with_reducible refine au 31 (.tmp 6) w3.heap.size (aK.cells ⟨blocks,lbas,first⟩) 31 _ H7.out Tryz.underlying31 rfl bP ?hgd ?ho ?hx ?_);(case hgd|ho|hx=>rfl))
   |((with_reducible refine ae 31 (.tmp 2) (.tmp 46) b2 aK.zero.cells (aK.cells ⟨blocks,lbas,first⟩) 31 HB7.out rfl bP (rH _) ?hgd ?ho ?hx ?hy ?_);(case hgd|ho|hx|hy=>rfl);(intro w9 B9 o9))
   |fail)
  (try simp only[Exit.inBlock,Exit.then]);refine bodyPost_ret (aL rfl _ _ B9.range rfl Tryz.underlying31 rfl bP) rfl ⟨rfl,o9.below HW7.out HL.out⟩
def letter (dst:Int) (s:ByteArray):List Value:=[.int .i64 dst, .string s]
theorem qH (dst:Int) (s:ByteArray):∀v∈letter dst s,v.oneCell'=true:=by
 intro v hv;simp only[letter,List.mem_cons,List.mem_nil_iff,or_false]at hv;rcases hv with rfl|rfl<;>rfl
theorem iZ:(Tryz.prog.info? 80).map (fun i=>(i.zero,i.size,i.bytes))=some (some (.agg (letter 0 ⟨#[]⟩).toArray),2,24):=by kernel_rfl
theorem AB {a b:Value}:(Tryz.prog.info? 80).map (·.size)=some ([a,b]:List Value).length:=by kernel_rfl
theorem pn (dst:Int) (s:ByteArray):Tryz.prog.built 80 [(0, .int .i64 dst),(1, .string s)]=some (letter dst s).toArray:=by kernel_rfl
theorem kf (w:World):(zeroValue 80).run Tryz.prog w= .ok (.agg (letter 0 ⟨#[]⟩).toArray) w:=by kernel_rfl
def dT (w:World) (nb:Nat) (v:Value):Prop:=ac w nb [.bool true,v] 133
def i8 (w:World) (v:Value) (dst:Int) (s:ByteArray):Prop:=w.ownsRow 0 80 2 v 1 (letter dst s)
theorem yw (w:World):
  Calls Tryz.prog 38 #[] w fun e w'=>(∃nb,e= .returned (.pointer (some ⟨nb,0,none⟩))∧dT w' nb (.slice none 0 0)∧w.heap.size≤nb)∧Below w.heap.size w w':=by
 go_enter Tryz.func38,Tryz.ntmps38
 have hB:Tryz.prog.built 133 [(0, .bool true)]=some ([.bool true, .slice none 0 0]:List Value).toArray:=by kernel_rfl
 go_wp2_with (first
  |((with_reducible refine ao 133 ?parts ([.bool true, .slice none 0 0]:List Value) ?hg ?ho ?hf ?_);(case hg|ho=>rfl);(case hf=>exact hB))
  |((with_reducible refine ai 133 (.tmp 1) [.bool true, .slice none 0 0] (some 2) ?hgd ?ho ?hd ?hx ?_);(case hgd|ho|hd|hx=>rfl);(intro b1 w1 l1 B1 e1 z1))
  |fail)
 go_ret
 exact⟨⟨b1,rfl,B1,l1⟩,e1.mono l1⟩
theorem vS (p:Option Addr) (w:World):
  Calls Tryz.prog 136 #[.slice p 0 0] w fun e w'=>(∃q n,e= .returned (.slice q 0 n))∧Below w.heap.size w w':=by
 obtain⟨i0,hi,hz0,hz1,hz2⟩:=info_parts iZ
 cases p with
 |none=>
  have hnn:∀w,(binOp .eql 88 (.slice none 0 0) (.slice none 0 0)).run Tryz.prog w= .ok (.bool true) w:=fun w=>Lib.run_eql_slice_nil w 88 80 none 0 0 0 0 Tryz.underlying88
  go_enter Tryz.func136,Tryz.ntmps136
  go_wp2_with fail
  go_ret
  exact⟨⟨_,_,rfl⟩,Below.refl _ _⟩
 |some a=>
  have hnn:∀w,(binOp .eql 88 (.slice (some a) 0 0) (.slice none 0 0)).run Tryz.prog w= .ok (.bool false) w:=fun w=>Lib.run_eql_slice_nil w 88 80 (some a) 0 0 0 0 Tryz.underlying88
  go_enter Tryz.func136,Tryz.ntmps136
  go_wp2_with (first
   |(at_builtin;refine nH _ _ 88 rfl rfl i0 Tryz.underlying88 hi _ _ _ _ rfl rfl ?_)
   |fail)
  go_ret
  exact⟨⟨_,_,rfl⟩,(Below.refl _ _).alloc (Nat.le_refl _) _⟩
theorem vT (v:Value) (n:Nat) (xs:List Value) (w:World) (h:w.ownsRow 0 80 2 v n xs) (h0:0<n) (hn:n≤4096) (h1:∀u∈xs,u.oneCell'=true):
  Calls Tryz.prog 136 #[v] w fun e w'=>(∃q c,e= .returned (.slice q n c))∧Below w.heap.size w w':=by
 obtain⟨i0,hi,hz0,hz1,hz2⟩:=info_parts iZ
 obtain⟨g,cap,rfl⟩:∃g cap,v= .slice (some ⟨g,0,none⟩) n cap:=by
  rcases h.2 with⟨rfl,h2⟩|⟨g,cap,cur,rfl,_⟩
  ·omega
  ·exact⟨g,cap,rfl⟩
 have hnn:∀w,(binOp .eql 88 (.slice (some ⟨g,0,none⟩) n cap) (.slice none 0 0)).run Tryz.prog w= .ok (.bool false) w:=fun w=>Lib.run_eql_slice_nil w 88 80 (some ⟨g,0,none⟩) n cap 0 0 Tryz.underlying88
 have hcs:∀j u,xs[j]?=some u→(w.alloc (.cells #[] 80)).cell? ((⟨g,0,none⟩:Addr).add j)=some u:=fun j u hu=>(World.ownsRow.alloc h _).cells (g:=g) rfl j u hu
 have HCS:=Lib.hid hcs
 have HL:=Lib.hid h.1
 have HONE:=Lib.hid h1
 clear h hcs h1
 go_enter Tryz.func136,Tryz.ntmps136
 go_wp2_with (first
  |(at_builtin;refine wpList_append_own_wide _ rfl _ _ 88 rfl w.heap.size 80 i0 (.agg (letter 0 ⟨#[]⟩).toArray) 2 24 Tryz.underlying88 hi hz0 hz1 hz2 rfl (by decide) _ 0 [] rfl (World.ownsRow_lit w #[] 0 (Nat.le_refl _) (by decide) rfl) ⟨g,0,none⟩ n cap xs rfl HL.out HCS.out HONE.out (by simp only[maxLen];omega) (by omega) (by simp) ?_;intro v8 w8 own8 grow8 nil8)
  |fail)
 have hb8:Below w.heap.size w w8:=fK ((Below.refl _ _).alloc (Nat.le_refl _) _) (World.ownsRow_lit (e:=80) (size:=2) w #[] 0 (Nat.le_refl _) (by decide) rfl) grow8 (Nat.le_refl _) (by simp)
 rw[Nat.zero_add,List.nil_append]at own8
 obtain⟨p,c',hv⟩:=aQ own8
 subst hv
 clear own8 grow8 nil8
 go_ret
 exact⟨⟨_,_,rfl⟩,hb8⟩
theorem Dv (p:Option Addr) (nb:Nat) (w:World) (h:dT w nb (.slice p 0 0)):
  Calls Tryz.prog 73 #[.pointer (some ⟨nb,0,none⟩)] w fun e w'=>(∃q n,e= .returned (.slice q 0 n))∧Below w.heap.size w w':=by
 have HN:=Lib.hid h
 have c1:=h.cell (i:=1) rfl
 clear h
 go_enter Tryz.func73,Tryz.ntmps73
 go_wp2_with fail
 refine(vS p _).mono ?_
 rintro e w1 ⟨⟨q,n,rfl⟩,hb⟩
 go_wp2_with fail
 go_ret
 exact⟨⟨_,_,rfl⟩,hb⟩
theorem sF (p:Option Addr) (nb:Nat) (w:World) (h:dT w nb (.slice p 0 0)):
  Calls Tryz.prog 33 #[.pointer (some ⟨nb,0,none⟩)] w fun e w'=>e= .returned (.int .i64 0)∧Below w.heap.size w w':=by
 go_enter Tryz.func33,Tryz.ntmps33
 go_wp2_with fail
 refine(Dv p nb _ h).mono ?_
 rintro e w1 ⟨⟨q,n,rfl⟩,hb⟩
 go_wp2_with fail
 go_ret
 exact⟨rfl,hb⟩
theorem Dw (v:Value) (dst:Int) (s:ByteArray) (nb:Nat) (w:World) (h:dT w nb v) (hl:i8 w v dst s):
  Calls Tryz.prog 73 #[.pointer (some ⟨nb,0,none⟩)] w fun e w'=>(∃q n,e= .returned (.slice q 1 n))∧Below w.heap.size w w':=by
 have HN:=Lib.hid h
 have HL:=Lib.hid hl
 obtain⟨p0,c0,hp0⟩:=aQ hl
 subst hp0
 clear hl
 have c1:=h.cell (i:=1) rfl
 clear h
 go_enter Tryz.func73,Tryz.ntmps73
 go_wp2_with fail
 refine(vT _ 1 _ _ HL.out (by decide) (by decide) (qH dst s)).mono ?_
 rintro e w1 ⟨⟨q,n,rfl⟩,hb⟩
 go_wp2_with fail
 go_ret
 exact⟨⟨_,_,rfl⟩,hb⟩
theorem sG (v:Value) (dst:Int) (s:ByteArray) (nb:Nat) (w:World) (h:dT w nb v) (hl:i8 w v dst s):
  Calls Tryz.prog 33 #[.pointer (some ⟨nb,0,none⟩)] w fun e w'=>e= .returned (.int .i64 1)∧Below w.heap.size w w':=by
 go_enter Tryz.func33,Tryz.ntmps33
 go_wp2_with fail
 refine(Dw v dst s nb _ h hl).mono ?_
 rintro e w1 ⟨⟨q,n,rfl⟩,hb⟩
 go_wp2_with fail
 go_ret
 exact⟨rfl,hb⟩
theorem yx (dst:Int) (s:ByteArray) (w:World) (h0:0≤dst) (h1:dst≤1) (hs:s.size≤10000):
  Calls Tryz.prog 64 #[.agg (letter dst s).toArray] w fun e w'=>e= .returned (.bool false)∧Below w.heap.size w w':=by
 have n0:¬dst<0:=by omega
 have n1:¬1<dst:=by omega
 have n2:¬(10000:Int)<s.size:=by omega
 go_enter Tryz.func64,Tryz.ntmps64
 go_wp2_with (first
  |((with_reducible refine ai 80 (.tmp 0) (letter dst s) (some 1) ?hgd ?ho ?hd ?hx ?_);(case hgd|ho|hd|hx=>rfl);(intro b1 w1 l1 B1 e1 z1;have q0:=B1.cell (i:=0) rfl;have q1:=B1.cell (i:=1) rfl))
  |fail)
 go_ret
 exact⟨rfl,e1.mono l1⟩
theorem yy (g c:Nat) (dst:Int) (s:ByteArray) (w:World) (h:ac w g (letter dst s) 80) (h0:0≤dst) (h1:dst≤1) (hs:s.size≤10000):
  Calls Tryz.prog 122 #[.slice (some ⟨g,0,none⟩) 1 c, .func (.func 64) #[] #[]] w fun e w'=>e= .returned (.int .i64 (-1))∧Below w.heap.size w w':=by
 have HR:=Lib.hid h
 clear h
 go_enter Tryz.func122,Tryz.ntmps122
 go_wp2_with fail
 go_loopw [8] (fun i wr=>∃k:Nat,k≤1∧i= .int .i64 k∧Below w.heap.size w wr) (fun i _=>1-(intOf i).toNat)
 case atStart=>exact⟨0,Nat.zero_le _,rfl,Below.refl _ _⟩
 case round=>
  obtain⟨k,hk,rfl,hbk⟩:=hrel
  have HB:=Lib.hid hbk
  clear hbk
  by_cases hlt:k<1
  ·obtain rfl:k=0:=by omega
   have q0:=(HR.out.below HB.out HR.out.lt).cell (i:=0) rfl
   have q1:=(HR.out.below HB.out HR.out.lt).cell (i:=1) rfl
   go_wp2_with fail
   refine(yx dst s _ h0 h1 hs).mono ?_
   rintro e w' ⟨rfl,hb'⟩
   have HB2:=Lib.hid (HB.out.trans (hb'.mono HB.out.size))
   clear hb'
   go_wp2_with fail
   go_roundw
   case rel=>exact⟨1,by omega,by go_num,HB2.out⟩
   case measure=>simp[intOf]
  ·obtain rfl:k=1:=by omega
   go_wp2_with fail
   go_ret
   exact⟨rfl,HB.out⟩
theorem rL (g c:Nat) (dst:Int) (s:ByteArray) (w:World) (h:ac w g (letter dst s) 80) (h0:0≤dst) (h1:dst≤1) (hs:s.size≤10000):
  Calls Tryz.prog 63 #[.slice (some ⟨g,0,none⟩) 1 c, .func (.func 64) #[] #[]] w fun e w'=>e= .returned (.bool false)∧Below w.heap.size w w':=by
 go_enter Tryz.func63,Tryz.ntmps63
 go_wp2_with fail
 refine(yy g c dst s _ h h0 h1 hs).mono ?_
 rintro e w' ⟨rfl,hb⟩
 go_wp2_with fail
 go_ret
 exact⟨rfl,hb⟩
theorem qI (nb g c:Nat) (p:Option Addr) (dst:Int) (s:ByteArray) (w:World) (hn:dT w nb (.slice p 0 0)) (h:ac w g (letter dst s) 80) (h0:0≤dst) (h1:dst≤1) (hs:s.size≤10000):
  Calls Tryz.prog 26 #[.pointer (some ⟨nb,0,none⟩), .slice (some ⟨g,0,none⟩) 1 c] w fun e w'=>(e= .returned (.int .i64 0)∧∃v,dT w' nb v∧i8 w' v dst s∧∀k,v.ownBlock=some k→w.heap.size≤k)∧ab [nb] w w':=by
 obtain⟨i0,hi,hz0,hz1,hz2⟩:=info_parts iZ
 have HN:=Lib.hid hn
 have HR:=Lib.hid h
 clear hn h
 have c0:=HN.out.cell (i:=0) rfl
 go_enter Tryz.func26,Tryz.ntmps26
 go_wp2_with fail
 refine(rL g c dst s _ HR.out h0 h1 hs).mono ?_
 rintro e w1 ⟨rfl,hb1⟩
 have HN1:=Lib.hid (show dT w1 nb (.slice p 0 0)from HN.out.below hb1 HN.out.lt)
 have HR1:=Lib.hid (HR.out.below hb1 HR.out.lt)
 have HT1:=Lib.hid (ab.of_below (S:=[nb]) hb1 (Nat.le_refl _))
 clear hb1 c0
 have c1:=HN1.out.cell (i:=1) rfl
 go_wp2_with (first
  |(at_builtin;refine ot _ _ 88 rfl rfl i0 (.agg (letter 0 ⟨#[]⟩).toArray) 24 Tryz.underlying88 hi hz0 hz1 hz2 rfl (by decide) p rfl ⟨g,0,none⟩ 1 c (by decide) (letter dst s) rfl rfl (cj HR1.out) (qH dst s) (by decide) (by decide) ?_;intro v8 w8 own8 grow8;obtain⟨p8,q8,hv8⟩:=aQ own8;subst hv8;have OWN8:=Lib.hid own8;have HN8:=Lib.hid (show dT w8 nb (.slice p 0 0)from HN1.out.grown grow8 (by simp));have HT8:=Lib.hid (HT1.out.trans (ab.of_grown (S:=[nb]) grow8 (by simp)));clear own8 grow8 c1;have c8:=HN8.out.cell (i:=1) rfl;have f8:=HN8.out.free 1)
  |fail)
 go_ret
 refine⟨⟨rfl, .slice p8 1 q8,HN8.out.set 1 _, ?_,fun k hk=> ?_⟩,HT8.out.setCell (b:=nb) (.inl (by simp)) 1 _⟩
 ·exact aB (Ar OWN8.out) ((ab.refl [nb] w8).setCell (b:=nb) (.inl (by simp)) 1 _) (fun k hk=>by have:=OWN8.out.lt k hk;have:=HN1.out.lt;intro hm;simp at hm;omega)
 ·have:=(OWN8.out.lt k hk).1;have:=HT1.out.size;omega
theorem qJ (nb:Nat) (v:Value) (dst:Int) (s:ByteArray) (w:World) (hn:dT w nb v) (hl:i8 w v dst s):
  Calls Tryz.prog 27 #[.pointer (some ⟨nb,0,none⟩), .int .i64 0] w fun e w'=>(e= .returned (.tuple #[.agg (letter dst s).toArray, .int .i64 0])∧∃p,dT w' nb (.slice p 0 0))∧ab [nb] w w':=by
 obtain⟨i0,hi,hz0,hz1,hz2⟩:=info_parts iZ
 obtain⟨g,c,rfl⟩:∃g c,v= .slice (some ⟨g,0,none⟩) 1 c:=by
  rcases hl.2 with⟨rfl,h0⟩|⟨g,cap,cur,rfl,_⟩
  ·cases h0
  ·exact⟨g,cap,rfl⟩
 have HN:=Lib.hid hn
 have HL:=Lib.hid hl
 clear hn hl
 go_enter Tryz.func27,Tryz.ntmps27
 go_wp2_with (first
  |((with_reducible refine af 80 _ kf (some 4) ?hgd ?ho ?hd ?_);(case hgd|ho|hd=>rfl);(intro b4 w1 l1 B1 e1 z1))
  |fail)
 have HB4:=Lib.hid B1
 have HL4:=Lib.hid l1
 have hb1:=e1.mono l1
 have HN1:=Lib.hid (show dT w1 nb _ from HN.out.below hb1 HN.out.lt)
 have HL1:=Lib.hid (own_below hb1 HL.out)
 have HT1:=Lib.hid (ab.of_below (S:=[nb]) hb1 (Nat.le_refl _))
 clear B1 e1 hb1 l1 z1
 refine(Calls.mono (show Calls Tryz.prog 65 #[.pointer (some ⟨nb,0,none⟩), .int .i64 0] _ (fun e w'=>e= .returned (.int .i64 0)∧w1=w')from ?_) ?_)
 ·have c0:=HN1.out.cell (i:=0) rfl
  have c1:=HN1.out.cell (i:=1) rfl
  go_enter Tryz.func65,Tryz.ntmps65
  go_wp2_with fail
  go_ret
  exact⟨rfl,rfl⟩
 rintro e w' ⟨rfl,rfl⟩
 have c1:=HN1.out.cell (i:=1) rfl
 have q0:w1.cell? ⟨g,0,none⟩=some (.int .i64 dst):=World.ownsRow.cellAt HL1.out 0 (by decide)
 have q1:w1.cell? ⟨g,1,none⟩=some (.string s):=World.ownsRow.cellAt HL1.out 1 (by decide)
 go_upto_region 5 with(first
  |((with_reducible refine af 80 _ kf (some 7) ?hgd ?ho ?hd ?_);(case hgd|ho|hd=>rfl);(intro b7 w2 l2 B2 e2 z2;have c70:=B2.cell (i:=0) rfl;have c71:=B2.cell (i:=1) rfl;have f70:=B2.free 0;have f71:=B2.free 1))
  |fail)
 have HB7:=Lib.hid ((B2.set 0 (.int .i64 dst)).set 1 (.string s))
 have n72:=Nat.lt_of_lt_of_le HB4.out.lt l2
 have hb2:Below w1.heap.size w1 w2:=e2.mono l2
 have N7:=Lib.hid (show w1.heap.size≤b7 from l2)
 have N4:=Lib.hid HB4.out.lt
 have NN:=Lib.hid HN.out.lt
 have o2:Below w1.heap.size w1 ((w2.setCell ⟨b7,0,none⟩ (.int .i64 dst)).setCell ⟨b7,1,none⟩ (.string s)):=(((bH.refl b7 w2).setCell 0 _).setCell 1 _).below hb2 l2
 generalize(w2.setCell ⟨b7,0,none⟩ (.int .i64 dst)).setCell ⟨b7,1,none⟩ (.string s)=w3 at HB7 o2 ⊢
 have HN2:=Lib.hid (show dT w3 nb _ from HN1.out.below o2 HN1.out.lt)
 have HT2:=Lib.hid (HT1.out.trans (ab.of_below (S:=[nb]) o2 (Nat.le_refl _)))
 have HB4b:=Lib.hid (HB4.out.below o2 HB4.out.lt)
 clear B2 e2 z2 l2 c70 c71 f70 f71 n72 hb2 o2 c1 q0 q1
 have hw1:IntKind.i64.wrap 1=1:=by decide
 have c3:=HN2.out.drew.cell (i:=1) rfl
 have f3:=HN2.out.drew.free 1
 go_region_law (first
  |(refine pK rfl _ _ 88 rfl i0 Tryz.underlying88 hi (some ⟨g,0,none⟩) _ 0 _ rfl rfl ?_)
  |fail)
 all_goals
  have HN4:=Lib.hid (show dT ((w3.setCell ⟨nb,1,none⟩ (.slice (some ⟨g,0,none⟩) 0 0)).drew) nb (.slice (some ⟨g,0,none⟩) 0 0)from(HN2.out.set 1 _).drew)
  have m4:b4≠nb:=by have:=NN.out;have:=HL4.out;omega
  have m7:b7≠nb:=by have:=NN.out;have:=HT1.out.size;have:=N7.out;omega
  have m47:b4≠b7:=by have:=N4.out;have:=N7.out;omega
  have HB4d:=(HB4b.out.set_other (a:=⟨nb,1,none⟩) m4 (.slice (some ⟨g,0,none⟩) 0 0)).drew
  have HB7d:=(HB7.out.set_other (a:=⟨nb,1,none⟩) m7 (.slice (some ⟨g,0,none⟩) 0 0)).drew
  have HT4:=Lib.hid ((HT2.out.setCell (b:=nb) (.inl (by simp)) 1 (.slice (some ⟨g,0,none⟩) 0 0)).trans (ab.of_below (S:=[nb]) (Below.refl _ _).drew (Nat.le_refl _)))
  clear m4 m7
  generalize(w3.setCell ⟨nb,1,none⟩ (.slice (some ⟨g,0,none⟩) 0 0)).drew=w4 at HN4 HB4d HB7d HT4 ⊢
  have x0:=HB7d.cell (i:=0) rfl
  have x1:=HB7d.cell (i:=1) rfl
  have y0:=HB4d.cell (i:=0) rfl
  have y1:=HB4d.cell (i:=1) rfl
  have g0:=HB4d.free 0
  have g1:=HB4d.free 1
  clear c3 f3
  have HB4e:=Lib.hid (show ac ((w4.setCell ⟨b4,0,none⟩ (.int .i64 dst)).setCell ⟨b4,1,none⟩ (.string s)) b4 (letter dst s) 80 from(HB4d.set 0 _).set 1 _)
  have HN5:=Lib.hid (show dT ((w4.setCell ⟨b4,0,none⟩ (.int .i64 dst)).setCell ⟨b4,1,none⟩ (.string s)) nb (.slice (some ⟨g,0,none⟩) 0 0)from(HN4.out.set_other (a:=⟨b4,0,none⟩) (by have:=NN.out;have:=HL4.out;intro he;simp at he;omega) _).set_other (a:=⟨b4,1,none⟩) (by have:=NN.out;have:=HL4.out;intro he;simp at he;omega) _)
  have HT5:=Lib.hid ((HT4.out.setCell (b:=b4) (.inr HL4.out) 0 (.int .i64 dst)).setCell (b:=b4) (.inr HL4.out) 1 (.string s))
  clear HB4d HB7d m47
  go_wp2_with fail
  all_goals(try simp only[Exit.inBlock,Exit.then]);refine bodyPost_ret (aL rfl _ _ HB4e.out.range rfl Tryz.underlying80 rfl AB) rfl ⟨⟨rfl,_,HN5.out⟩,HT5.out⟩
structure am where
 bv:Value
 bs:List ByteArray
 cv:Value
 cs:List (Int×ByteArray)
 down:Bool
 left:Int
def am.cells (d:am):List Value:=[d.bv,d.cv, .bool true, .bool d.down, .int .i64 d.left]
def putCells (p:Int×ByteArray):List Value:=[.int .i64 p.1, .string p.2]
def ja (l:List (Int×ByteArray)):List Value:=l.flatMap putCells
theorem vU (l:List (Int×ByteArray)):(ja l).length=l.length*2:=by
 induction l with
 |nil=>rfl
 |cons a r ih=>show(putCells a++ja r).length= _;rw[List.length_append,ih,List.length_cons];show 2+_= _;omega
theorem AC (l:List (Int×ByteArray)) (p:Int×ByteArray):ja (l++[p])=ja l++putCells p:=by simp[ja]
theorem EL (l:List (Int×ByteArray)):∀(j:Nat) (p:Int×ByteArray),l[j]?=some p→(ja l)[j*2]?=some (.int .i64 p.1)∧(ja l)[j*2+1]?=some (.string p.2):=by
 induction l with
 |nil=>intro j p h;simp at h
 |cons a r ih=>
  intro j p h
  cases j with
  |zero=>simp at h;subst h;exact⟨rfl,rfl⟩
  |succ j=>
   have:=ih j p (by simpa using h)
   show(putCells a++ja r)[(j+1)*2]?= _∧(putCells a++ja r)[(j+1)*2+1]?= _
   rw[List.getElem?_append_right (by show 2≤_;omega),List.getElem?_append_right (by show 2≤_;omega)]
   rw[show(j+1)*2-(putCells a).length=j*2 by show(j+1)*2-2= _;omega,show(j+1)*2+1-(putCells a).length=j*2+1 by show(j+1)*2+1-2= _;omega]
   exact this
def am.foot (d:am) (db:Nat):List Nat:=db::(d.bv.ownBlock.toList++d.cv.ownBlock.toList)
structure az (w:World) (db:Nat) (d:am):Prop where
 blk:ac w db d.cells 119
 rb:w.ownsRow 0 9 1 d.bv d.bs.length (d.bs.map .string)
 rc:w.ownsRow 0 160 2 d.cv d.cs.length (ja d.cs)
 n1:d.bv.ownBlock≠some db
 n2:d.cv.ownBlock≠some db
 n3:∀g,d.bv.ownBlock=some g→d.cv.ownBlock≠some g
theorem am.mem1 {d:am} {db k:Nat} (h:d.bv.ownBlock=some k):k∈d.foot db:=by simp[am.foot,h]
theorem am.mem2 {d:am} {db k:Nat} (h:d.cv.ownBlock=some k):k∈d.foot db:=by simp[am.foot,h]
theorem az.turned {S:List Nat} {w w':World} {db:Nat} {d:am} (h:az w db d) (t:ab S w w') (hS:∀x,x∈d.foot db→x∉S):az w' db d:=
 ⟨t.blk h.blk (hS db (by simp[am.foot])),aB h.rb t (fun k hk=>hS k (am.mem1 hk)),aB h.rc t (fun k hk=>hS k (am.mem2 hk)),h.n1,h.n2,h.n3⟩
theorem az.below {w w':World} {db:Nat} {d:am} (h:az w db d) (hb:Below w.heap.size w w'):az w' db d:=
 h.turned (S:=[]) (ab.of_below hb (Nat.le_refl _)) (by simp)
theorem az.lt {w:World} {db:Nat} {d:am} (h:az w db d):∀x,x∈d.foot db→x<w.heap.size:=by
 intro x hx
 simp only[am.foot,List.mem_cons,List.mem_append,Option.mem_toList,Option.mem_def]at hx
 rcases hx with rfl|hx|hx
 ·exact h.blk.lt
 ·exact(h.rb.lt x hx).2
 ·exact(h.rc.lt x hx).2
def kK (cs:List (Int×ByteArray)) (i:Int):Nat→Option ByteArray
 |0=>none
 |k+1=>if(cs.getD k (0,ByteArray.empty)).1=i then some (cs.getD k (0,ByteArray.empty)).2 else kK cs i k
def am.shown (d:am) (i:Int):ByteArray:=(kK d.cs i d.cs.length).getD (d.bs.getD i.toNat ByteArray.empty)
def am.step (d:am):am:=if 0<d.left then{d with left:=d.left-1,down:=d.left-1==0} else d
structure bg (w w':World) (db:Nat) (d d':am):Prop where
 at':az w' db d'
 turned:ab (d.foot db) w w'
 foot:∀x,x∈d'.foot db→x∈d.foot db∨w.heap.size≤x
theorem bg.refl {w:World} {db:Nat} {d:am} (h:az w db d):bg w w db d d:=⟨h,ab.refl _ _,fun _ hx=> .inl hx⟩
theorem bg.trans {u v w:World} {db:Nat} {d d' d'':am} (h:bg u v db d d') (k:bg v w db d' d''):bg u w db d d'':=
 ⟨k.at',h.turned.on k.turned h.foot,fun x hx=>(k.foot x hx).elim (fun h1=>h.foot x h1) (fun h1=> .inr (Nat.le_trans h.turned.size h1))⟩
theorem bg.below {u v w:World} {db:Nat} {d d':am} (h:bg u v db d d') (hb:Below v.heap.size v w):bg u w db d d':=
 ⟨h.at'.below hb,h.turned.trans (ab.of_below hb (Nat.le_refl _)),h.foot⟩
theorem bg.ahead {u v w:World} {db:Nat} {d d':am} (hb:Below u.heap.size u v) (h:bg v w db d d'):bg u w db d d':=
 ⟨h.at',(ab.of_below hb (Nat.le_refl _)).trans h.turned,fun x hx=>(h.foot x hx).elim .inl (fun h1=> .inr (Nat.le_trans hb.size h1))⟩
theorem jB (db:Nat) (d:am) (w:World) (h:az w db d):
  Calls Tryz.prog 46 #[.pointer (some ⟨db,0,none⟩)] w fun e w'=>e= .returned (.bool true)∧w=w':=by
 have c2:=h.blk.cell (i:=2) rfl
 go_enter Tryz.func46,Tryz.ntmps46
 go_wp2_with fail
 go_ret
 exact⟨rfl,rfl⟩
theorem nP (db:Nat) (d:am) (w:World) (h:az w db d):
  Calls Tryz.prog 45 #[.pointer (some ⟨db,0,none⟩)] w fun e w'=>e= .returned (.int .i64 (if d.down then 14 else 0))∧w=w':=by
 have c3:=h.blk.cell (i:=3) rfl
 obtain⟨q,hq⟩:∃q,d.down=q:=⟨_,rfl⟩
 rw[hq]at c3 ⊢
 cases q with
 |false=>
  go_enter Tryz.func45,Tryz.ntmps45
  go_wp2_with fail
  refine(jB db d _ h).mono ?_
  rintro e w' ⟨rfl,rfl⟩
  go_wp2_with fail
  go_ret
  exact⟨rfl,rfl⟩
 |true=>
  go_enter Tryz.func45,Tryz.ntmps45
  go_wp2_with fail
  refine(jB db d _ h).mono ?_
  rintro e w' ⟨rfl,rfl⟩
  go_wp2_with fail
  go_ret
  exact⟨rfl,rfl⟩
theorem pL {w:World} {db:Nat} {d:am} (h:az w db d):∃(p:Option Addr) (c:Nat),d.bv= .slice p d.bs.length c:=aQ h.rb
theorem pM {w:World} {db:Nat} {d:am} (h:az w db d):∃(p:Option Addr) (c:Nat),d.cv= .slice p d.cs.length c:=aQ h.rc
theorem vV (db:Nat) (d:am) (w:World) (h:az w db d) (i:Int):
  Calls Tryz.prog 319 #[.pointer (some ⟨db,0,none⟩), .int .i64 i] w fun e w'=>e= .returned (.bool (decide (0≤i)&&decide (i<d.bs.length)))∧w=w':=by
 have c0:=h.blk.cell (i:=0) rfl
 obtain⟨p,c,hs⟩:=pL h
 rw[hs]at c0
 by_cases h0:0≤i
 ·by_cases h1:i<(d.bs.length:Int)
  ·have h2:=h1
   go_enter Tryz.func319,Tryz.ntmps319
   go_wp2_with fail
   go_ret
   exact⟨by simp[h0,h2],rfl⟩
  ·have h2:(d.bs.length:Int)≤i:=by omega
   go_enter Tryz.func319,Tryz.ntmps319
   go_wp2_with fail
   go_ret
   exact⟨by simp[h0,h1],rfl⟩
 ·have h2:i<0:=by omega
  go_enter Tryz.func319,Tryz.ntmps319
  go_wp2_with fail
  go_ret
  exact⟨by have h3:¬(0≤i):=by omega
           simp[h3],rfl⟩
theorem mL (db:Nat) (d:am) (w:World) (h:az w db d):
  Calls Tryz.prog 146 #[.pointer (some ⟨db,0,none⟩)] w fun e w'=>e= .returned (.int .i64 d.bs.length)∧w=w':=by
 have c0:=h.blk.cell (i:=0) rfl
 obtain⟨p,c,hs⟩:=pL h
 rw[hs]at c0
 go_enter Tryz.func146,Tryz.ntmps146
 go_wp2_with fail
 refine(jB db d _ h).mono ?_
 rintro e w' ⟨rfl,rfl⟩
 go_wp2_with fail
 go_ret
 exact⟨rfl,rfl⟩
theorem qK (db:Nat) (d:am) (w:World) (h:az w db d):
  Calls Tryz.prog 42 #[.pointer (some ⟨db,0,none⟩)] w fun e w'=>e= .returned (.bool d.down)∧w=w':=by
 have c3:=h.blk.cell (i:=3) rfl
 go_enter Tryz.func42,Tryz.ntmps42
 go_wp2_with fail
 refine(jB db d _ h).mono ?_
 rintro e w' ⟨rfl,rfl⟩
 go_wp2_with fail
 go_ret
 exact⟨rfl,rfl⟩
def am.placeE (d:am) (i:Int) (n:Nat):Int:=if(decide (0≤i)&&decide (i<d.bs.length))=true then(if n=4096 then 0 else 2)else 4
theorem yz (db:Nat) (d:am) (w:World) (h:az w db d) (i:Int) (s:ByteArray):
  Calls Tryz.prog 320 #[.pointer (some ⟨db,0,none⟩), .int .i64 i, .string s] w fun e w'=>e= .returned (.int .i64 (d.placeE i s.size))∧w=w':=by
 go_enter Tryz.func320,Tryz.ntmps320
 go_wp2_with fail
 refine(vV db d _ h i).mono ?_
 rintro e w' ⟨rfl,rfl⟩
 obtain⟨q,hq⟩:∃q,(decide (0≤i)&&decide (i<(d.bs.length:Int)))=q:=⟨_,rfl⟩
 have HQ:=Lib.hid hq
 rw[hq]
 clear hq
 cases q with
 |false=>
  have HE:=Lib.hid (show d.placeE i s.size=4 by unfold am.placeE;rw[HQ.out];simp)
  go_wp2_with fail
  go_ret
  exact⟨by rw[HE.out];rfl,rfl⟩
 |true=>
  by_cases hs:s.size=4096
  ·have h1:(s.size:Int)=4096:=by omega
   have HE:=Lib.hid (show d.placeE i s.size=0 by unfold am.placeE;rw[HQ.out];simp[hs])
   clear hs
   go_wp2_with fail
   go_ret
   exact⟨by rw[HE.out];rfl,rfl⟩
  ·have h1:(s.size:Int)≠4096:=by omega
   have HE:=Lib.hid (show d.placeE i s.size=2 by unfold am.placeE;rw[HQ.out];simp[hs])
   clear hs
   go_wp2_with fail
   go_ret
   exact⟨by rw[HE.out];rfl,rfl⟩
theorem vW:(Tryz.prog.info? 160).map (fun i=>(i.zero,i.size,i.bytes))=some (some (.agg #[.int .i64 0, .string ⟨#[]⟩]),2,24):=by kernel_rfl
theorem pN:(Tryz.prog.info? 9).map (fun i=>(i.zero,i.size,i.bytes))=some (some (.string ⟨#[]⟩),1,16):=by kernel_rfl
theorem Dx:(Tryz.prog.info? 115).map (·.size)=some 1:=by kernel_rfl
theorem EM {w:World} {base:Nat} {e:TypeId} {size:Nat} {v:Value} {n:Nat} {xs:List Value} (h:w.ownsRow base e size v n xs):v.oneCell'=true:=by obtain⟨p',c',h'⟩:=aQ h;rw[h'];rfl
theorem qL (db:Nat) (d:am) (w:World) (h:az w db d) (hd:d.down=false) (hl:d.left=0):
  Calls Tryz.prog 253 #[.pointer (some ⟨db,0,none⟩)] w fun e w'=>e= .returned (.bool false)∧w=w':=by
 have c3:=h.blk.cell (i:=3) rfl
 have c4:=h.blk.cell (i:=4) rfl
 rw[hd]at c3
 rw[hl]at c4
 go_enter Tryz.func253,Tryz.ntmps253
 go_wp2_with fail
 go_ret
 exact⟨rfl,rfl⟩
theorem az.only {w w':World} {db:Nat} {d d':am} (h:az w db d) (o:bH db w w') (hb:ac w' db d'.cells 119) (e1:d'.bv=d.bv) (e2:d'.bs=d.bs) (e3:d'.cv=d.cv) (e4:d'.cs=d.cs):az w' db d':=by
 have t:ab [db] w w':=o.turned (by simp)
 refine⟨hb, ?_, ?_,by rw[e1];exact h.n1,by rw[e3];exact h.n2,by rw[e1,e3];exact h.n3⟩
 ·rw[e1,e2];exact aB h.rb t (fun k hk hm=>h.n1 (by simp at hm;rw[hk,hm]))
 ·rw[e3,e4];exact aB h.rc t (fun k hk hm=>h.n2 (by simp at hm;rw[hk,hm]))
theorem az.cached {u w w':World} {db:Nat} {d:am} {v:Value} {l:List (Int×ByteArray)} (h:az u db d) (hr:w.ownsRow 0 160 2 v l.length (ja l)) (hg:u.grownBy w d.cv.ownBlock) (hn:fC u d.cv.ownBlock v.ownBlock)
  (o:bH db w w') (hb:ac w' db ({d with cv:=v,cs:=l}:am).cells 119):bg u w' db d {d with cv:=v,cs:=l}:=by
 have t1:ab (d.foot db) u w:=ab.of_grown hg (fun k hk=>am.mem2 hk)
 have t2:ab [db] w w':=o.turned (by simp)
 have hvdb:v.ownBlock≠some db:=by
  intro he
  rcases hn with h1|h1
  ·exact h.n2 (by rw[←h1];exact he)
  ·have:=h1 db he;have:=h.blk.lt;omega
 refine⟨⟨hb, ?_, ?_,h.n1,hvdb, ?_⟩, ?_, ?_⟩
 ·refine aB (S:=[db]) ?_ t2 (fun k hk hm=>h.n1 (by simp at hm;rw[hk,hm]))
  exact aB (S:=d.cv.ownBlock.toList) h.rb (ab.of_grown hg (fun k hk=>by simp[hk])) (fun k hk hm=>h.n3 k hk (by simpa using hm))
 ·exact aB hr t2 (fun k hk hm=>hvdb (by simp at hm;rw[hk,hm]))
 ·intro g hgb hgv
  rcases hn with h1|h1
  ·exact h.n3 g hgb (by rw[←h1];exact hgv)
  ·have:=h1 g hgv;have:=(h.rb.lt g hgb).2;omega
 ·exact t1.trans (t2.mono (fun x hx=>by simp at hx;subst hx;simp[am.foot]))
 ·intro x hx
  simp only[am.foot,List.mem_cons,List.mem_append,Option.mem_toList,Option.mem_def]at hx ⊢
  rcases hx with hx|hx|hx
  ·exact .inl (.inl hx)
  ·exact .inl (.inr (.inl hx))
  ·rcases hn with h1|h1
   ·exact .inl (.inr (.inr (by rw[←h1];exact hx)))
   ·exact .inr (h1 x hx)
theorem yA (db:Nat) (d:am) (w:World) (h:az w db d) (hd:d.down=false) (hl:d.left=0) (hc:d.cs.length<4096) (i:Int) (s:ByteArray) (hi:0≤i) (hi2:i<d.bs.length) (hs:s.size=4096):
  Calls Tryz.prog 251 #[.pointer (some ⟨db,0,none⟩), .int .i64 i, .string s] w fun e w'=>e= .returned (.int .i64 0)∧∃cv',bg w w' db d {d with cv:=cv',cs:=d.cs++[(i,s)]}:=by
 obtain⟨j0,ji,jz0,jz1,jz2⟩:=info_parts vW
 have HH:=Lib.hid h
 have HE:=Lib.hid (show d.placeE i s.size=0 by unfold am.placeE;simp[hi,hi2,hs])
 have HC:=Lib.hid hc
 clear h hi hi2 hs hc
 go_enter Tryz.func251,Tryz.ntmps251
 go_wp2_with fail
 refine(nP db d _ HH.out).mono ?_
 rintro e w' ⟨rfl,rfl⟩
 rw[hd]
 go_wp2_with fail
 refine(yz db d _ HH.out i s).mono ?_
 rintro e w' ⟨rfl,rfl⟩
 rw[HE.out]
 have c1:=HH.out.blk.cell (i:=1) rfl
 obtain⟨p,c,hcv⟩:=pM HH.out
 have HCV:=Lib.hid hcv
 rw[hcv]at c1
 have hlt:(d.cs.length:Int)<4096:=by have:=HC.out;omega
 clear hcv
 have hlen8:1<d.cells.length:=by show 1<5;decide
 go_wp2_with fail
 refine(qL db d _ HH.out hd hl).mono ?_
 rintro e w' ⟨rfl,rfl⟩
 have own1:=HH.out.rc
 rw[HCV.out]at own1
 go_wp2_with (first
  |((with_reducible refine bD 115 160 1 ?parts [.int .i64 i, .string s] (.agg #[.int .i64 0, .string ⟨#[]⟩]) 2 24 (some 39) Tryz.underlying115 vW (by omega) (by omega) ?hgd ?ho ?hd ?hf ?_);(case hgd|ho|hd=>rfl);(case hf=>kernel_rfl);(intro g2 w2 l2 B2 e2 z2);(have own2:=own_below (e2.mono l2) own1))
  |(at_builtin;refine kF _ _ 115 rfl rfl j0 (.agg #[.int .i64 0, .string ⟨#[]⟩]) 24 Tryz.underlying115 ji jz0 jz1 jz2 rfl (by decide) rfl own2 ⟨g2,0,none⟩ 1 1 [.int .i64 i, .string s] rfl rfl (cj B2) (by intro v hv;simp at hv;rcases hv with rfl|rfl<;>rfl) (by unfold maxLen;omega) (by omega) (Nat.zero_le _) ?_;intro v' w3 own3 grow3 near3;have B3:=(HH.out.blk.below e2 (by have:=HH.out.blk.lt;omega)).grown grow3 (by rw[←HCV.out];exact fun he=>HH.out.n2 he.symm))
  |((with_reducible refine aj 115 (.tmp 43) (.tmp 40) db 1 v' d.cells 119 B3 hlen8 Dx (EM own3) ?hgd ?ho ?hx ?hy ?_);(case hgd|ho|hx|hy=>rfl);(intro w4 B4 o4))
  |fail)
 go_ret
 refine⟨rfl,v', ?_⟩
 have hA:=HH.out.below (e2.mono l2)
 refine bg.ahead (e2.mono l2) (hA.cached (l:=d.cs++[(i,s)]) (by rw[List.length_append,AC];exact own3) (by rw[HCV.out];exact grow3) (by rw[HCV.out];exact near3) o4 B4)
theorem az.block {w:World} {db:Nat} {d:am} (h:az w db d) {i:Nat} (hi:i<d.bs.length):∃g c,d.bv= .slice (some ⟨g,0,none⟩) d.bs.length c∧w.cell? ⟨g,i,none⟩=some (.string (d.bs.getD i ByteArray.empty)):=by
 obtain⟨g,cap,z,hv,hc,_,hb⟩:=dA h.rb (by omega)
 refine⟨g,cap,hv,hb.cell ?_⟩
 rw[List.getElem?_append_left (by simpa using hi)]
 simp[List.getD,List.getElem?_eq_getElem hi]
theorem az.cached_at {w:World} {db:Nat} {d:am} (h:az w db d) {k:Nat} (hk:k<d.cs.length):∃g c,d.cv= .slice (some ⟨g,0,none⟩) d.cs.length c∧w.cell? ⟨g,k*2,none⟩=some (.int .i64 (d.cs.getD k (0,ByteArray.empty)).1)∧w.cell? ⟨g,k*2+1,none⟩=some (.string (d.cs.getD k (0,ByteArray.empty)).2):=by
 obtain⟨g,cap,z,hv,hc,_,hb⟩:=dA h.rc (by omega)
 have hg:d.cs.getD k (0,ByteArray.empty)=d.cs[k]:=by simp[List.getD,List.getElem?_eq_getElem hk]
 obtain⟨h1,h2⟩:=EL d.cs k d.cs[k] (List.getElem?_eq_getElem hk)
 have hl:=vU d.cs
 rw[hg]
 exact⟨g,cap,hv,hb.cell (by rw[List.getElem?_append_left (by omega)];exact h1),hb.cell (by rw[List.getElem?_append_left (by omega)];exact h2)⟩
theorem ff (db:Nat) (d:am) (w:World) (h:az w db d) (hd:d.down=false) (i:Nat) (hi:i<d.bs.length) (hc:d.cs.length≤4096) (hb:d.bs.length≤1024):
  Calls Tryz.prog 249 #[.pointer (some ⟨db,0,none⟩), .int .i64 (i:Int)] w fun e w'=>e= .returned (.tuple #[.string (d.shown i), .int .i64 0])∧w=w':=by
 have HH:=Lib.hid h
 obtain⟨n,hn⟩:∃n,d.cs.length=n:=⟨_,rfl⟩
 have HN:=Lib.hid hn
 rw[hn]at hc
 obtain⟨pc,cc,hcv⟩:=pM h
 have c1:=h.blk.cell (i:=1) rfl
 rw[hcv,hn]at c1
 obtain⟨gb,cb,hbv,hblk⟩:=h.block hi
 have c0:=h.blk.cell (i:=0) rfl
 rw[hbv]at c0
 have HCV:=Lib.hid hcv
 obtain⟨sb,hsb⟩:∃s,d.bs.getD i ByteArray.empty=s:=⟨_,rfl⟩
 rw[hsb]at hblk
 have HSB:=Lib.hid hsb
 clear h hcv hbv hn hsb
 go_enter Tryz.func249,Tryz.ntmps249
 go_wp2_with fail
 refine(nP db d _ HH.out).mono ?_
 rintro e w' ⟨rfl,rfl⟩
 rw[hd]
 go_wp2_with fail
 refine(vV db d _ HH.out (i:Int)).mono ?_
 rintro e w' ⟨rfl,rfl⟩
 have hat:(decide ((0:Int)≤(i:Int))&&decide ((i:Int)<(d.bs.length:Int)))=true:=by simp;omega
 rw[hat]
 have hi0:(0:Int)≤(i:Int):=by omega
 have hi1:(i:Int)<(d.bs.length:Int):=by omega
 clear hat
 go_wp2_with fail
 go_loopw [7] (fun v wr=>∃k:Nat,k≤n∧v= .int .i64 ((k:Int)-1)∧kK d.cs i n=kK d.cs i k∧wr=w) (fun v _=>(intOf v+1).toNat)
 case atStart=>exact⟨n,Nat.le_refl _,rfl,rfl,rfl⟩
 case round=>
  obtain⟨k,hk,rfl,hla,rfl⟩:=hrel
  have HLA:=Lib.hid hla
  clear hla
  cases k with
  |zero=>
   go_wp2_with fail
   go_ret2
   refine⟨?_,rfl⟩
   have e1:d.shown i=sb:=by
    unfold am.shown
    rw[HN.out,HLA.out,←HSB.out]
    simp[kK]
   rw[e1]
   rfl
  |succ m=>
   have hm:m<d.cs.length:=by rw[HN.out];omega
   obtain⟨g,c,hv,q0,q1⟩:=HH.out.cached_at hm
   rw[show((m+1:Nat):Int)-1=(m:Int) by omega]
   have c1':wr.cell? ⟨db,1,none⟩=some (.slice (some ⟨g,0,none⟩) n c):=by rw[←HN.out,←hv];exact HH.out.blk.cell (i:=1) rfl
   clear c1 hv
   have hm0:(0:Int)≤(m:Int):=by omega
   have hm1:(m:Int)<(n:Int):=by omega
   obtain⟨pa,ps,hps⟩:∃a s,d.cs.getD m (0,ByteArray.empty)=(a,s):=⟨_,_,rfl⟩
   rw[hps]at q0 q1
   simp only at q0 q1
   have HPS:=Lib.hid hps
   clear hps
   by_cases heq:pa=(i:Int)
   ·have HEQ:=Lib.hid heq
    go_wp2_with fail
    go_ret2
    refine⟨?_,rfl⟩
    have e1:d.shown i=ps:=by
     unfold am.shown
     rw[HN.out,HLA.out]
     unfold kK
     rw[HPS.out,if_pos HEQ.out]
     rfl
    rw[e1]
    rfl
   ·have HEQ:=Lib.hid heq
    go_wp2_with fail
    go_roundw
    case rel=>exact⟨m,by omega,by go_num,by rw[HLA.out,kK,HPS.out,if_neg HEQ.out],by first|rfl|trivial⟩
    case measure=>simp[intOf];try omega
end Go.Proofs.YtngiibgdgenidaaGreat
