/- What a volume that is none answers (chapter 29). Walk of the documents' Same of two messages (chapter 27). How long a message's bytes are (chapter 27). Walk of AnswerNil: for every message, epoch, and whether there is a volume, the law returns true. No condition. -/
import Derived.Test.YtgimkmclgjfddaaGreatQ31
import Derived.Test.YtgimkmclgjfddaaGreatQ30
import Derived.Test.YtgimkmclgjfddaaGreatQ25
import Derived.Test.YtgimkmclgjfddaaGreatQ28
set_option linter.unusedSimpArgs false
set_option linter.unusedVariables false
set_option maxRecDepth 100000
set_option maxHeartbeats 4000000
namespace Go.Proofs.YtgimkmclgjfddaaGreat
open Go Go.RowKit
theorem nJ:Tryz.prog.built 39 []=some (ac.cells ac.zero (.slice none 0 0) (.slice none 0 0)).toArray:=by kernel_rfl
theorem jf (v:Value) (m:ac) (u l:Value) (w:World) (h:fa w v) (hu:∃(p:Option Addr) (n c:Nat),u= .slice p n c) (hl:∃(p:Option Addr) (n c:Nat),l= .slice p n c):
  Calls Tryz.prog 6 #[v,m.v u l] w fun e w'=>e= .returned (.tuple #[ac.zero.v (.slice none 0 0) (.slice none 0 0), .bool false])∧Below w.heap.size w w':=by
 have H0:=Lib.hid h
 obtain⟨p1,n1,c1,rfl⟩:=hu
 obtain⟨p2,n2,c2,rfl⟩:=hl
 clear h
 go_enter Tryz.func6,Tryz.ntmps6
 go_wp2_with (first
  |((with_reducible refine ag 39 (.tmp 1) (m.cells (.slice p1 n1 c1) (.slice p2 n2 c2)) (some 3) ?hgd ?ho ?hd ?hx ?_);(case hgd|ho|hd|hx=>rfl);(intro b3 w1 l1 B1 e1 z1))
  |((with_reducible refine ai 39 _ eS (some 4) ?hgd ?ho ?hd ?_);(case hgd|ho|hd=>rfl);(intro b4 w2 l2 B2 e2 z2))
  |fail)
 have L2:w.heap.size≤b4:=Nat.le_trans l1 (Nat.le_trans (Nat.le_of_lt z1) l2)
 have HX4:=Lib.hid B2
 have HL4:=Lib.hid L2
 have HB2:=Lib.hid ((e1.mono l1).trans (e2.mono L2))
 have HV2:=Lib.hid (H0.out.below HB2.out)
 clear B1 B2 e1 e2 z1 z2 l1 l2 L2
 refine(sx v _ HV2.out).mono ?_
 rintro e w3 ⟨rfl,rfl⟩
 go_wp2_with (first
  |((with_reducible refine aw 39 ?parts (ac.cells ac.zero (.slice none 0 0) (.slice none 0 0)) ?hg ?ho ?hf ?_);(case hg|ho=>rfl);(case hf=>exact nJ))
  |((with_reducible refine af 39 (.tmp 4) (.tmp 24) b4 (ac.cells ac.zero (.slice none 0 0) (.slice none 0 0)) (ac.cells ac.zero (.slice none 0 0) (.slice none 0 0)) 39 HX4.out rfl bn (fZ _) ?hgd ?ho ?hx ?hy ?_);(case hgd|ho|hx|hy=>rfl);(intro w9 B9 o9))
  |fail)
 (try simp only[Exit.inBlock,Exit.then]);refine bodyPost_ret (bQ rfl _ _ B9.range rfl Tryz.underlying39 rfl bn) rfl ⟨rfl,o9.below HB2.out HL4.out⟩
theorem Gq (m:ac) (p1 p2:Option Addr) (n1 n2 c1 c2:Nat):∀x∈m.cells (.slice p1 n1 c1) (.slice p2 n2 c2),x.oneCell'=true:=by
 intro x hx
 simp only[ac.cells,List.mem_cons,List.mem_nil_iff,or_false]at hx
 rcases hx with rfl|rfl|rfl|rfl|rfl|rfl|rfl|rfl|rfl|rfl|rfl|rfl|rfl|rfl|rfl|rfl|rfl|rfl|rfl|rfl|rfl|rfl|rfl|rfl|rfl|rfl|rfl|rfl|rfl|rfl|rfl|rfl|rfl|rfl|rfl|rfl|rfl|rfl|rfl|rfl|rfl<;>rfl
theorem mU (v:Value) (s:ByteArray) (w:World) (h:fa w v) (hs:s.size≤1000000):
  Calls Tryz.prog 8 #[v, .string s] w fun e w'=>e= .returned (.tuple #[.string ⟨#[]⟩, .bool false])∧Below w.heap.size w w':=by
 have H0:=Lib.hid h
 clear h
 go_enter Tryz.func8,Tryz.ntmps8
 go_wp2_with fail
 refine(xH s _ hs).mono ?_
 rintro e w1 ⟨ht,hb1⟩
 have HV1:=Lib.hid (H0.out.below hb1)
 have HB1:=Lib.hid hb1
 clear hb1 hs
 rcases ht with⟨x,ux,lx,htk,rfl,hux,hlx⟩|⟨hno,rfl⟩
 ·obtain⟨p1,c1,rfl⟩:=hux.shape
  obtain⟨p2,c2,rfl⟩:=hlx.shape
  clear htk hux hlx
  obtain⟨n1,hn1⟩:∃n,n=x.told.up.length:=⟨_,rfl⟩
  obtain⟨n2,hn2⟩:∃n,n=x.told.left.length:=⟨_,rfl⟩
  rw[←hn1,←hn2]
  clear hn1 hn2
  go_wp2_with (first
   |((with_reducible refine ai 39 _ eS (some 6) ?hgd ?ho ?hd ?_);(case hgd|ho|hd=>rfl);(intro b6 w2 l2 B2 e2 z2))
   |((with_reducible refine af 39 (.tmp 6) (.tmp 14) b6 (ac.cells ac.zero (.slice none 0 0) (.slice none 0 0)) (x.cells (.slice p1 n1 c1) (.slice p2 n2 c2)) 39 B2 rfl bn (Gq _ _ _ _ _ _ _) ?hgd ?ho ?hx ?hy ?_);(case hgd|ho|hx|hy=>rfl);(intro w3 B3 o3))
   |((with_reducible refine ae 39 (.tmp 6) b6 0 ((x.cells (.slice p1 n1 c1) (.slice p2 n2 c2))) _ (some 20) (B3.range) Tryz.underlying39 rfl bn ?hg ?ho ?hds ?hx ?_);(case ho|hg|hds|hx=>rfl))
   |fail)
  have hb3:Below w1.heap.size w1 w3:=o3.below (e2.mono l2) l2
  have HB3:=Lib.hid (HB1.out.trans (hb3.mono HB1.out.size))
  have HV3:=Lib.hid (HV1.out.below hb3)
  clear hb3 B2 B3 e2 l2 z2 o3
  refine(jf v x _ _ _ HV3.out ⟨_,_,_,rfl⟩ ⟨_,_,_,rfl⟩).mono ?_
  rintro e w4 ⟨rfl,hb4⟩
  have HB4:=Lib.hid (HB3.out.trans (hb4.mono HB3.out.size))
  clear hb4
  go_wp2_with (first
   |((with_reducible refine ai 39 _ eS (some 8) ?hgd ?ho ?hd ?_);(case hgd|ho|hd=>rfl);(intro b8 w5 l5 B5 e5 z5))
   |((with_reducible refine af 39 (.tmp 8) (.tmp 22) b8 (ac.cells ac.zero (.slice none 0 0) (.slice none 0 0)) (ac.cells ac.zero (.slice none 0 0) (.slice none 0 0)) 39 B5 rfl bn (fZ _) ?hgd ?ho ?hx ?hy ?_);(case hgd|ho|hx|hy=>rfl);(intro w6 B6 o6))
   |fail)
  go_ret2
  exact⟨rfl,HB4.out.trans ((o6.below (e5.mono l5) l5).mono HB4.out.size)⟩
 ·go_wp2_with (first
   |((with_reducible refine ai 39 _ eS (some 6) ?hgd ?ho ?hd ?_);(case hgd|ho|hd=>rfl);(intro b6 w2 l2 B2 e2 z2))
   |((with_reducible refine af 39 (.tmp 6) (.tmp 14) b6 (ac.cells ac.zero (.slice none 0 0) (.slice none 0 0)) (ac.cells ac.zero (.slice none 0 0) (.slice none 0 0)) 39 B2 rfl bn (fZ _) ?hgd ?ho ?hx ?hy ?_);(case hgd|ho|hx|hy=>rfl);(intro w3 B3 o3))
   |fail)
  go_ret2
  exact⟨rfl,HB1.out.trans ((o3.below (e2.mono l2) l2).mono HB1.out.size)⟩
theorem Ae (w:World):(zeroValue 85).run Tryz.prog w= .ok (.slice none 0 0) w:=by kernel_rfl
theorem xI (w:World):
  Calls Tryz.prog 26 #[.slice none 0 0] w fun e w'=>e= .returned (.slice none 0 0)∧Below w.heap.size w w':=by
 have hmk:∀(fn:Fn) (first cap:Array Value) (w:World),(Instr.makeFunc fn first cap).run Tryz.prog w= .ok (.func fn first cap) w:=fun _ _ _ _=>rfl
 go_enter Tryz.func26,Tryz.ntmps26
 go_upto_region 2 with(first
  |((with_reducible refine aC 45 (.tmp 0) (.slice none 0 0) rfl (some 1) ?hgd ?ho ?hd ?hx ?_);(case hgd|ho|hd|hx=>rfl);(intro b1 w1 l1 B1 e1 z1))
  |((with_reducible refine aF 85 (.slice none 0 0) Ae rfl (some 3) ?hgd ?ho ?hd ?_);(case hgd|ho|hd=>rfl);(intro b3 w2 l2 B2 e2 z2))
  |fail)
 have HB:=Lib.hid ((e1.mono l1).trans (e2.mono (Nat.le_trans l1 (Nat.le_trans (Nat.le_of_lt z1) l2))))
 have x1:=(B1.below e2 (Nat.lt_of_lt_of_le z1 l2)).cell (i:=0) rfl
 have x3:=B2.cell (i:=0) rfl
 clear B1 B2 e1 e2 z1 z2 l1 l2
 go_wp2_with fail
 go_loopw [9] (fun vi wr=>vi= .int .i64 0∧wr=w2) (fun _ _=>0)
 case atStart=>exact⟨rfl,rfl⟩
 case round=>
  obtain⟨rfl,rfl⟩:=hrel
  go_wp2_with fail
  go_ret
  exact⟨rfl,HB.out⟩
theorem Af (w:World):(zeroValue 59).run Tryz.prog w= .ok (.slice none 0 0) w:=by kernel_rfl
theorem kA (v:Value) (n:Int) (w:World) (h:fa w v):
  Calls Tryz.prog 10 #[v, .int .i64 n] w fun e w'=>e= .returned (.slice none 0 0)∧Below w.heap.size w w':=by
 have H0:=Lib.hid h
 have hmk:∀(fn:Fn) (first cap:Array Value) (w:World),(Instr.makeFunc fn first cap).run Tryz.prog w= .ok (.func fn first cap) w:=fun _ _ _ _=>rfl
 clear h
 go_enter Tryz.func10,Tryz.ntmps10
 go_wp2_with (first
  |((with_reducible refine aC 3 (.tmp 1) (.int .i64 n) rfl (some 3) ?hgd ?ho ?hd ?hx ?_);(case hgd|ho|hd|hx=>rfl);(intro b3 w1 l1 B1 e1 z1))
  |((with_reducible refine aF 59 (.slice none 0 0) Af rfl (some 5) ?hgd ?ho ?hd ?_);(case hgd|ho|hd=>rfl);(intro b5 w2 l2 B2 e2 z2))
  |fail)
 have L2:w.heap.size≤b5:=Nat.le_trans l1 (Nat.le_trans (Nat.le_of_lt z1) l2)
 have HX5:=Lib.hid B2
 have HB2:=Lib.hid ((e1.mono l1).trans (e2.mono L2))
 have HV2:=Lib.hid (H0.out.below HB2.out)
 clear B1 B2 e1 e2 z1 z2 l1 l2 L2
 refine(ul v _ HV2.out).mono ?_
 rintro e w3 ⟨rfl,rfl⟩
 go_wp2_with fail
 refine(xI _).mono ?_
 rintro e w4 ⟨rfl,hb4⟩
 have HX5z:=Lib.hid (HX5.out.below hb4 HX5.out.lt)
 have HB4:=Lib.hid (HB2.out.trans (hb4.mono HB2.out.size))
 clear hb4
 have x5:=HX5z.out.cell (i:=0) rfl
 go_wp2_with fail
 go_loopw [14] (fun vi wr=>vi= .int .i64 0∧wr=w4) (fun _ _=>0)
 case atStart=>exact⟨rfl,rfl⟩
 case round=>
  obtain⟨rfl,rfl⟩:=hrel
  go_wp2_with fail
  go_ret
  exact⟨rfl,HB4.out⟩
theorem CY (kind:Int) (epoch:Int) (seq:Int) (nonce:ByteArray) (tag:ByteArray) (last:ByteArray) (askE:Int) (askL:Int) (sld:aH) (rcp:aK) (tE:Int) (tL:Int) (g:Bool) (sl:Int) (ci:ByteArray) (f f':Bool) (at_ at_':Int) (here here':aM) (ahead ahead':aM) (up up':List ByteArray) (left left':List ByteArray) (u l u' l':Value) (w:World) (hu:aN w u up) (hl:aN w l left) (hu':aN w u' up') (hl':aN w l' left') (hul:Long up.length) (hll:Long left.length) (hul':Long up'.length) (hll':Long left'.length):
  Calls Tryz.prog 9 #[(⟨kind,epoch,seq,nonce,tag,last,askE,askL,sld,(⟨tE,tL,g,f,at_,here,ahead,up,left,sl,ci⟩:ax),rcp⟩:ac).v u l,(⟨kind,epoch,seq,nonce,tag,last,askE,askL,sld,(⟨tE,tL,g,f',at_',here',ahead',up',left',sl,ci⟩:ax),rcp⟩:ac).v u' l'] w fun e w'=>e= .returned (.bool (kd (⟨tE,tL,g,f,at_,here,ahead,up,left,sl,ci⟩:ax) (⟨tE,tL,g,f',at_',here',ahead',up',left',sl,ci⟩:ax)))∧Below w.heap.size w w':=by
 have HU:=Lib.hid (show _∧_∧_∧_∧_∧_∧_∧_ from⟨hu,hl,hu',hl',hul,hll,hul',hll'⟩)
 clear hu hl hu' hl' hul hll hul' hll'
 obtain⟨r,hr⟩:∃r,kd (⟨tE,tL,g,f,at_,here,ahead,up,left,sl,ci⟩:ax) (⟨tE,tL,g,f',at_',here',ahead',up',left',sl,ci⟩:ax)=r:=⟨_,rfl⟩
 rw[hr]
 have HR:=Lib.hid hr;clear hr
 go_enter Tryz.func9,Tryz.ntmps9
 go_wp2_with (first
  |((with_reducible refine ag 39 (.tmp 0) ((⟨kind,epoch,seq,nonce,tag,last,askE,askL,sld,(⟨tE,tL,g,f,at_,here,ahead,up,left,sl,ci⟩:ax),rcp⟩:ac).cells u l) (some 2) ?hgd ?ho ?hd ?hx ?_);(case hgd|ho|hd|hx=>rfl);(intro b1 w1 l1 B1 e1 z1))
  |((with_reducible refine ag 39 (.tmp 1) ((⟨kind,epoch,seq,nonce,tag,last,askE,askL,sld,(⟨tE,tL,g,f',at_',here',ahead',up',left',sl,ci⟩:ax),rcp⟩:ac).cells u' l') (some 3) ?hgd ?ho ?hd ?hx ?_);(case hgd|ho|hd|hx=>rfl);(intro b2 w2 l2 B2 e2 z2);have BB:=B1.below e2 (Nat.lt_of_lt_of_le B1.lt l2);have HB2:Below w.heap.size w w2:=(e1.mono l1).trans (e2.mono (by have:=e1.size;omega));have c0:=BB.cell (i:=0) rfl;have d0:=B2.cell (i:=0) rfl;have c1:=BB.cell (i:=1) rfl;have d1:=B2.cell (i:=1) rfl;have c2:=BB.cell (i:=2) rfl;have d2:=B2.cell (i:=2) rfl;have c3:=BB.cell (i:=3) rfl;have d3:=B2.cell (i:=3) rfl;have c4:=BB.cell (i:=4) rfl;have d4:=B2.cell (i:=4) rfl;have c5:=BB.cell (i:=5) rfl;have d5:=B2.cell (i:=5) rfl;have c6:=BB.cell (i:=6) rfl;have d6:=B2.cell (i:=6) rfl;have c7:=BB.cell (i:=7) rfl;have d7:=B2.cell (i:=7) rfl;have c8:=BB.cell (i:=8) rfl;have d8:=B2.cell (i:=8) rfl;have c9:=BB.cell (i:=9) rfl;have d9:=B2.cell (i:=9) rfl;have c10:=BB.cell (i:=10) rfl;have d10:=B2.cell (i:=10) rfl;have c11:=BB.cell (i:=11) rfl;have d11:=B2.cell (i:=11) rfl;have c12:=BB.cell (i:=12) rfl;have d12:=B2.cell (i:=12) rfl;have c13:=BB.cell (i:=13) rfl;have d13:=B2.cell (i:=13) rfl;have c14:=BB.cell (i:=14) rfl;have d14:=B2.cell (i:=14) rfl;have c15:=BB.cell (i:=15) rfl;have d15:=B2.cell (i:=15) rfl;have c16:=BB.cell (i:=16) rfl;have d16:=B2.cell (i:=16) rfl;have c30:=BB.cell (i:=30) rfl;have d30:=B2.cell (i:=30) rfl;have c31:=BB.cell (i:=31) rfl;have d31:=B2.cell (i:=31) rfl;have c32:=BB.cell (i:=32) rfl;have d32:=B2.cell (i:=32) rfl;have c33:=BB.cell (i:=33) rfl;have d33:=B2.cell (i:=33) rfl;have c34:=BB.cell (i:=34) rfl;have d34:=B2.cell (i:=34) rfl;have c35:=BB.cell (i:=35) rfl;have d35:=B2.cell (i:=35) rfl;have c36:=BB.cell (i:=36) rfl;have d36:=B2.cell (i:=36) rfl;have c37:=BB.cell (i:=37) rfl;have d37:=B2.cell (i:=37) rfl;have c38:=BB.cell (i:=38) rfl;have d38:=B2.cell (i:=38) rfl;have c39:=BB.cell (i:=39) rfl;have d39:=B2.cell (i:=39) rfl;have c40:=BB.cell (i:=40) rfl;have d40:=B2.cell (i:=40) rfl;have c17:=BB.cell (i:=17) rfl;have d17:=B2.cell (i:=17) rfl;have c18:=BB.cell (i:=18) rfl;have d18:=B2.cell (i:=18) rfl;have c19:=BB.cell (i:=19) rfl;have d19:=B2.cell (i:=19) rfl;have c28:=BB.cell (i:=28) rfl;have d28:=B2.cell (i:=28) rfl;have c29:=BB.cell (i:=29) rfl;have d29:=B2.cell (i:=29) rfl;have c20:=BB.cell (i:=20) rfl;have d20:=B2.cell (i:=20) rfl;have c21:=BB.cell (i:=21) rfl;have d21:=B2.cell (i:=21) rfl;have c22:=BB.cell (i:=22) rfl;have d22:=B2.cell (i:=22) rfl;have c23:=BB.cell (i:=23) rfl;have d23:=B2.cell (i:=23) rfl;have c24:=BB.cell (i:=24) rfl;have d24:=B2.cell (i:=24) rfl;have c25:=BB.cell (i:=25) rfl;have d25:=B2.cell (i:=25) rfl;have c26:=BB.cell (i:=26) rfl;have d26:=B2.cell (i:=26) rfl;have c27:=BB.cell (i:=27) rfl;have d27:=B2.cell (i:=27) rfl;clear B1 B2 BB e1 e2 l1 l2 z1 z2)
  |(go_at_call 24;refine(xC (⟨tE,tL,g,f,at_,here,ahead,up,left,sl,ci⟩:ax) (⟨tE,tL,g,f',at_',here',ahead',up',left',sl,ci⟩:ax) u l u' l' _ (aN.below HU.out.1 HB2 (Nat.le_refl _)) (aN.below HU.out.2.1 HB2 (Nat.le_refl _)) (aN.below HU.out.2.2.1 HB2 (Nat.le_refl _)) (aN.below HU.out.2.2.2.1 HB2 (Nat.le_refl _)) HU.out.2.2.2.2.1 HU.out.2.2.2.2.2.1 HU.out.2.2.2.2.2.2.1 HU.out.2.2.2.2.2.2.2).mono ?_;rintro e3 w3 ⟨he,hb3⟩;rw[HR.out]at he;subst he;have HB3:=HB2.trans (hb3.mono HB2.size))
  |fail)
 go_ret
 exact⟨rfl,HB3⟩
theorem rP {x:aM} (h:cV x=true):(nY x).length≤35:=by
 have:=jw (yz x []) (fun _=>by
  unfold cV at h
  simp only[Bool.or_eq_true,decide_eq_true_eq]at h
  rcases h with h|h
  ·rw[h];exact Nat.zero_le _
  ·simp only[dJ,Bool.and_eq_true,decide_eq_true_eq]at h;omega)
 simpa using this
theorem rQ {xs:List ByteArray} (hl:xs.length≤12) (ha:dG xs=true):(mt xs).length≤8200:=by
 have:=(fX (rk xs []) (fun _=>hl) (fun _ x hx=>by rw[CQ ha x hx];exact Nat.le_refl _)).1
 simpa using this
theorem CZ {t:ax} (h:dz t=true):(nZ t).length≤25000:=by
 have ht:=(Gf t).1 h
 have hto:=ht.2
 simp only[oh,Bool.and_eq_true,decide_eq_true_eq]at hto
 obtain⟨⟨⟨⟨⟨⟨g1,g2⟩,g3⟩,g4⟩,g5⟩,g6⟩,⟨⟨g7,g8⟩,g9⟩,g10⟩:=hto
 have h1:=rP g5
 have h2:=rP g6
 have h3:=rQ g7 g9
 have h4:=rQ g8 g10
 have h5:(cZ t.cipher.data.toList).length=4+t.cipher.size:=bg _
 unfold nZ
 split
 ·simp[mw,mr,beBytes_length]
 ·simp only[List.length_append,mw,mr,beBytes_length];omega
theorem C0 {m:ac} (h:dP m=true):(ob m).length≤25000:=by
 have hs:=(gJ h).says
 have hl:m.last.data.toList.length≤32:=(gJ h).last
 unfold ob
 unfold aX at hs
 split
 ·simp[beBytes_length]
 next h1=>
 split
 ·simp only[List.length_append,beBytes_length];omega
 next h4=>
 split
 ·simp[beBytes_length]
 next h5=>
 split
 ·next h6=>
  simp[h6]at hs
  have:=ct hs.1.2
  have h2:m.sld.tag.data.toList.length=m.sld.tag.size:=rfl
  simp only[List.length_append,beBytes_length];omega
 next h6=>
 split
 ·simp[mw,beBytes_length]
 next h7=>
 split
 ·next h8=>simp[h8]at hs;exact CZ hs
 next h8=>
 split
 ·next h10=>simp[h10]at hs;have:=jG hs;omega
 ·simp
theorem xJ {m:ac} (h:dP m=true):(j9 m).length≤26000:=by
 have h1:=C0 h
 have h2:m.nonce.data.toList.length≤32:=(gJ h).nonce
 unfold j9
 simp only[List.length_append,beBytes_length];omega
theorem nK {w w':World} {m:ac} {u l:Value} (h:ei w m u l) (hb:Below w.heap.size w w'):ei w' m u l:=
 ⟨h.kind,h.epoch,h.seq,h.nonce,h.tag,h.last,h.sld,h.rcp,h.at_,h.slot,h.up.below hb (Nat.le_refl _),h.left.below hb (Nat.le_refl _),h.upl,h.leftl⟩
theorem rR {m:ac} {e:Ending} (h:Ends (dP m=true) (kx m) 2 e):∃(s:ByteArray) (n:Int),e= .returned (.tuple #[.string s, .int .i64 n])∧s.size≤1000000:=by
 cases hok:dP m with
 |false=>exact⟨_,_,h.no (by rw[hok];decide),by decide⟩
 |true=>
  obtain⟨s,he,ts⟩:=h.yes hok
  refine⟨s,_,he, ?_⟩
  rw[ts.size]
  have h1:=xJ hok
  have h2:m.tag.data.toList.length≤32:=(gJ hok).tag
  unfold kx
  rw[List.length_append];omega
theorem rS (w:World):Calls Tryz.prog 9 #[ac.zero.v (.slice none 0 0) (.slice none 0 0),ac.zero.v (.slice none 0 0) (.slice none 0 0)] w fun e w'=>e= .returned (.bool true)∧Below w.heap.size w w':=
 (CY 0 0 0 ⟨#[]⟩ ⟨#[]⟩ ⟨#[]⟩ 0 0 aH.zero aK.zero 0 0 false 0 ⟨#[]⟩ false false 0 0 aM.zero aM.zero aM.zero aM.zero [] [] [] [] (.slice none 0 0) (.slice none 0 0) (.slice none 0 0) (.slice none 0 0) w (aJ.nil _ _) (aJ.nil _ _) (aJ.nil _ _) (aJ.nil _ _) ⟨by decide⟩ ⟨by decide⟩ ⟨by decide⟩ ⟨by decide⟩).mono fun e w' ⟨he,hb⟩=>⟨by rw[he];simp[kd],hb⟩
theorem Ag:Tryz.prog.built 50 []=some nR.toArray:=by kernel_rfl
theorem sY (m:ac) (u l:Value) (n0:Int) (there:Bool) (w:World) (fm:ei w m u l):
  Calls Tryz.prog 3 #[m.v u l, .int .i64 n0, .bool there] w fun e w'=>e= .returned (.bool true)∧Below w.heap.size w w':=by
 have HF:=Lib.hid fm;clear fm
 have HU:=Lib.hid (show ∃(p:Option Addr) (n c:Nat),u= .slice p n c from let⟨p,c,h⟩:=HF.out.up.shape;⟨p,_,c,h⟩)
 have HL:=Lib.hid (show ∃(p:Option Addr) (n c:Nat),l= .slice p n c from let⟨p,c,h⟩:=HF.out.left.shape;⟨p,_,c,h⟩)
 go_enter Tryz.func3,Tryz.ntmps3
 go_wp2_with (first
  |((with_reducible refine ag 39 (.tmp 0) (m.cells u l) (some 3) ?hgd ?ho ?hd ?hx ?_);(case hgd|ho|hd|hx=>rfl);(intro b0 w0 l0 B0 e0 z0))
  |((with_reducible refine ae 39 (.tmp 3) b0 0 ((m.cells u l)) _ (some 14) (B0.range) Tryz.underlying39 rfl bn ?hg ?ho ?hds ?hx ?_);(case ho|hg|hds|hx=>rfl))
  |fail)
 have HB0:=Lib.hid (show Below w.heap.size w w0 from e0.mono l0)
 have HX0:=Lib.hid B0
 clear e0 l0 z0 B0
 refine(zV m u l _ (nK HF.out HB0.out)).mono ?_
 rintro e w1 ⟨hq,hb1⟩
 obtain⟨q,rfl,hq⟩:=hq
 have HX1:=Lib.hid (HX0.out.below hb1 HX0.out.lt)
 have HB1:=Lib.hid (HB0.out.trans (hb1.mono HB0.out.size))
 clear hb1
 cases q with
 |false=>
  clear hq
  go_wp2_with fail
  refine(rm _).mono ?_
  rintro e wz ⟨rfl,hbz⟩
  go_wp2_with fail
  go_ret
  exact⟨rfl,HB1.out.trans (hbz.mono HB1.out.size)⟩
 |true=>
  have FM:=Lib.hid (hq rfl);clear hq
  cases there with
  |false=>
   have HX2:=Lib.hid HX1.out
   have HB2:=Lib.hid HB1.out
   have HN2:=Lib.hid (show fa w1 (.pointer none)from .inl rfl)
   go_wp2_with (first
    |((with_reducible refine ae 39 (.tmp 3) b0 0 ((m.cells u l)) _ (some 23) (HX2.out.range) Tryz.underlying39 rfl bn ?hg ?ho ?hds ?hx ?_);(case ho|hg|hds|hx=>rfl))
    |fail)
   refine(jf (.pointer none) m u l _ HN2.out HU.out HL.out).mono ?_
   rintro e w3 ⟨rfl,hb3⟩
   have HX3:=Lib.hid (HX2.out.below hb3 HX2.out.lt)
   have HB3:=Lib.hid (HB2.out.trans (hb3.mono HB2.out.size))
   have HN3:=Lib.hid (HN2.out.below hb3)
   clear hb3
   go_upto_region 7 with(first
    |((with_reducible refine ai 39 _ eS (some 8) ?hgd ?ho ?hd ?_);(case hgd|ho|hd=>rfl);(intro b8 w4 l4 B4 e4 z4))
    |((with_reducible refine af 39 (.tmp 8) (.tmp 25) b8 (ac.cells ac.zero (.slice none 0 0) (.slice none 0 0)) (ac.cells ac.zero (.slice none 0 0) (.slice none 0 0)) 39 B4 rfl bn (fZ _) ?hgd ?ho ?hx ?hy ?_);(case hgd|ho|hx|hy=>rfl);(intro w5 B5 o5))
    |fail)
   have hb5:Below w3.heap.size w3 w5:=o5.below (e4.mono l4) l4
   have HY5:=Lib.hid B5
   have HX5:=Lib.hid (HX3.out.below hb5 HX3.out.lt)
   have HB5:=Lib.hid (HB3.out.trans (hb5.mono HB3.out.size))
   have HN5:=Lib.hid (HN3.out.below hb5)
   clear hb5 B4 e4 l4 z4 B5 o5
   go_wp2_with (first
    |((with_reducible refine ae 39 (.tmp 3) b0 0 ((m.cells u l)) _ (some 28) (HX5.out.range) Tryz.underlying39 rfl bn ?hg ?ho ?hds ?hx ?_);(case ho|hg|hds|hx=>rfl))
    |fail)
   refine(qu m u l _ (nK HF.out HB5.out).up (nK HF.out HB5.out).left (FM.out.tame HF.out)).mono ?_
   rintro e w6 ⟨he,hb6⟩
   obtain⟨s,n,rfl,hs⟩:=rR he
   have HS:=Lib.hid hs
   have HY6:=Lib.hid (HY5.out.below hb6 HY5.out.lt)
   have HX6:=Lib.hid (HX5.out.below hb6 HX5.out.lt)
   have HB6:=Lib.hid (HB5.out.trans (hb6.mono HB5.out.size))
   have HN6:=Lib.hid (HN5.out.below hb6)
   clear hb6 he hs
   go_wp2_with fail
   refine(mU (.pointer none) s _ HN6.out HS.out).mono ?_
   rintro e w7 ⟨rfl,hb7⟩
   have HY7:=Lib.hid (HY6.out.below hb7 HY6.out.lt)
   have HX7:=Lib.hid (HX6.out.below hb7 HX6.out.lt)
   have HB7:=Lib.hid (HB6.out.trans (hb7.mono HB6.out.size))
   have HN7:=Lib.hid (HN6.out.below hb7)
   clear hb7
   go_wp2_with (first
    |((with_reducible refine ae 39 (.tmp 8) b8 0 ((ac.cells ac.zero (.slice none 0 0) (.slice none 0 0))) _ (some 38) (HY7.out.range) Tryz.underlying39 rfl bn ?hg ?ho ?hds ?hx ?_);(case ho|hg|hds|hx=>rfl))
    |((with_reducible refine aw 39 ?parts (ac.cells ac.zero (.slice none 0 0) (.slice none 0 0)) ?hg ?ho ?hf ?_);(case hg|ho=>rfl);(case hf=>exact nJ))
    |fail)
   refine(rS _).mono ?_
   rintro e w8 ⟨he,hb8⟩
   subst he
   have HX8:=Lib.hid (HX7.out.below hb8 HX7.out.lt)
   have HB8:=Lib.hid (HB7.out.trans (hb8.mono HB7.out.size))
   have HN8:=Lib.hid (HN7.out.below hb8)
   clear hb8
   go_wp2_with fail
   refine(kA (.pointer none) n0 _ HN8.out).mono ?_
   rintro e w9 ⟨rfl,hb9⟩
   have HX9:=Lib.hid (HX8.out.below hb9 HX8.out.lt)
   have HB9:=Lib.hid (HB8.out.trans (hb9.mono HB8.out.size))
   have HN9:=Lib.hid (HN8.out.below hb9)
   clear hb9
   go_wp2_with fail
   refine(rm _).mono ?_
   rintro e wz ⟨rfl,hbz⟩
   go_wp2_with fail
   go_ret
   exact⟨rfl,HB9.out.trans (hbz.mono HB9.out.size)⟩
  |true=>
   go_upto_region 6 with(first
    |((with_reducible refine aw 50 ?partsv nR ?hg ?ho ?hf ?_);(case hg|ho=>rfl);(case hf=>exact Ag))
    |((with_reducible refine ag 50 (.tmp 19) nR (some 20) ?hgd ?ho ?hd ?hx ?_);(case hgd|ho|hd|hx=>rfl);(intro b20 wv lv Bv ev zv))
    |fail)
   have hb2:Below w1.heap.size w1 wv:=ev.mono lv
   have HN2:=Lib.hid (show fa wv (.pointer (some ⟨b20,0,none⟩))from .inr ⟨b20,rfl,Bv⟩)
   have HX2:=Lib.hid (HX1.out.below hb2 HX1.out.lt)
   have HB2:=Lib.hid (HB1.out.trans (hb2.mono HB1.out.size))
   clear hb2 ev lv zv Bv
   go_wp2_with (first
    |((with_reducible refine ae 39 (.tmp 3) b0 0 ((m.cells u l)) _ (some 23) (HX2.out.range) Tryz.underlying39 rfl bn ?hg ?ho ?hds ?hx ?_);(case ho|hg|hds|hx=>rfl))
    |fail)
   refine(jf (.pointer (some ⟨b20,0,none⟩)) m u l _ HN2.out HU.out HL.out).mono ?_
   rintro e w3 ⟨rfl,hb3⟩
   have HX3:=Lib.hid (HX2.out.below hb3 HX2.out.lt)
   have HB3:=Lib.hid (HB2.out.trans (hb3.mono HB2.out.size))
   have HN3:=Lib.hid (HN2.out.below hb3)
   clear hb3
   go_upto_region 7 with(first
    |((with_reducible refine ai 39 _ eS (some 8) ?hgd ?ho ?hd ?_);(case hgd|ho|hd=>rfl);(intro b8 w4 l4 B4 e4 z4))
    |((with_reducible refine af 39 (.tmp 8) (.tmp 25) b8 (ac.cells ac.zero (.slice none 0 0) (.slice none 0 0)) (ac.cells ac.zero (.slice none 0 0) (.slice none 0 0)) 39 B4 rfl bn (fZ _) ?hgd ?ho ?hx ?hy ?_);(case hgd|ho|hx|hy=>rfl);(intro w5 B5 o5))
    |fail)
   have hb5:Below w3.heap.size w3 w5:=o5.below (e4.mono l4) l4
   have HY5:=Lib.hid B5
   have HX5:=Lib.hid (HX3.out.below hb5 HX3.out.lt)
   have HB5:=Lib.hid (HB3.out.trans (hb5.mono HB3.out.size))
   have HN5:=Lib.hid (HN3.out.below hb5)
   clear hb5 B4 e4 l4 z4 B5 o5
   go_wp2_with (first
    |((with_reducible refine ae 39 (.tmp 3) b0 0 ((m.cells u l)) _ (some 28) (HX5.out.range) Tryz.underlying39 rfl bn ?hg ?ho ?hds ?hx ?_);(case ho|hg|hds|hx=>rfl))
    |fail)
   refine(qu m u l _ (nK HF.out HB5.out).up (nK HF.out HB5.out).left (FM.out.tame HF.out)).mono ?_
   rintro e w6 ⟨he,hb6⟩
   obtain⟨s,n,rfl,hs⟩:=rR he
   have HS:=Lib.hid hs
   have HY6:=Lib.hid (HY5.out.below hb6 HY5.out.lt)
   have HX6:=Lib.hid (HX5.out.below hb6 HX5.out.lt)
   have HB6:=Lib.hid (HB5.out.trans (hb6.mono HB5.out.size))
   have HN6:=Lib.hid (HN5.out.below hb6)
   clear hb6 he hs
   go_wp2_with fail
   refine(mU (.pointer (some ⟨b20,0,none⟩)) s _ HN6.out HS.out).mono ?_
   rintro e w7 ⟨rfl,hb7⟩
   have HY7:=Lib.hid (HY6.out.below hb7 HY6.out.lt)
   have HX7:=Lib.hid (HX6.out.below hb7 HX6.out.lt)
   have HB7:=Lib.hid (HB6.out.trans (hb7.mono HB6.out.size))
   have HN7:=Lib.hid (HN6.out.below hb7)
   clear hb7
   go_wp2_with (first
    |((with_reducible refine ae 39 (.tmp 8) b8 0 ((ac.cells ac.zero (.slice none 0 0) (.slice none 0 0))) _ (some 38) (HY7.out.range) Tryz.underlying39 rfl bn ?hg ?ho ?hds ?hx ?_);(case ho|hg|hds|hx=>rfl))
    |((with_reducible refine aw 39 ?parts (ac.cells ac.zero (.slice none 0 0) (.slice none 0 0)) ?hg ?ho ?hf ?_);(case hg|ho=>rfl);(case hf=>exact nJ))
    |fail)
   refine(rS _).mono ?_
   rintro e w8 ⟨he,hb8⟩
   subst he
   have HX8:=Lib.hid (HX7.out.below hb8 HX7.out.lt)
   have HB8:=Lib.hid (HB7.out.trans (hb8.mono HB7.out.size))
   have HN8:=Lib.hid (HN7.out.below hb8)
   clear hb8
   go_wp2_with fail
   refine(kA (.pointer (some ⟨b20,0,none⟩)) n0 _ HN8.out).mono ?_
   rintro e w9 ⟨rfl,hb9⟩
   have HX9:=Lib.hid (HX8.out.below hb9 HX8.out.lt)
   have HB9:=Lib.hid (HB8.out.trans (hb9.mono HB8.out.size))
   have HN9:=Lib.hid (HN8.out.below hb9)
   clear hb9
   go_wp2_with fail
   refine(rm _).mono ?_
   rintro e wz ⟨rfl,hbz⟩
   go_wp2_with fail
   go_ret
   exact⟨rfl,HB9.out.trans (hbz.mono HB9.out.size)⟩
end Go.Proofs.YtgimkmclgjfddaaGreat
