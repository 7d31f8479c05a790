/- A session's world (chapter 31): what it has, and whether its session is open. What the parts of a message write, and read: one word for both ways. No program in sight. Walks of chain.begin, records, beyond, and of Follow at an epoch that may not be (chapter 20). -/
import Derived.Test.YtngiibgdgenidaaGreatQ8
import Derived.Test.YtngiibgdgenidaaGreatQ15
import Derived.Test.YtngiibgdgenidaaGreatQ19
import Derived.Test.YtngiibgdgenidaaGreatQ14
import Derived.Test.YtngiibgdgenidaaGreatQ2
import Derived.Deep.QuietTactic
import Derived.BigQuiet
import Derived.Deep.RegionWith
import Derived.Deep.DeepAppendWide
import Derived.Deep.DeepCutAuto
import Derived.OneCell
import Derived.Test.YtngiibgdgenidaaGreatQ13
import Derived.Test.YtngiibgdgenidaaGreatQ7
import Derived.Deep.RegionHeld3
set_option linter.unusedSimpArgs false
set_option linter.unusedVariables false
set_option maxRecDepth 100000
set_option maxHeartbeats 4000000
namespace Go.Proofs.YtngiibgdgenidaaGreat
open Go Go.RowKit Go.Maps Go.WideMaps
structure bL where
 wb:Nat
 nb:Nat
 db:Nat
 xb:Nat
 geo:aK
 data:ByteArray
 i:aR
 v:bf
def bL.cells (s:bL):List Value:=[.pointer (some ⟨s.nb,0,none⟩), .int .i64 s.geo.blocks, .int .i64 s.geo.lbas, .int .i64 s.geo.first, .pointer (some ⟨s.db,0,none⟩), .pointer (some ⟨s.i.vb,0,none⟩), .string s.data, .pointer (some ⟨s.xb,0,none⟩)]
def bL.foot (s:bL):List Nat:=s.wb::s.nb::s.i.foot s.v.d
structure bO (w:World) (s:bL) (d:ay) (nv:Value):Prop where
 blk:ac w s.wb s.cells 36
 net:dT w s.nb nv
 vol:aP w s.i s.v
 ver:bq w s.xb d
 apart:∀x,x∈s.foot→x∉d.foot s.xb
theorem bO.foot_lt {w:World} {s:bL} {d:ay} {nv:Value} (h:bO w s d nv):∀x,x∈s.foot→x<w.heap.size:=by
 intro x hx
 rcases List.mem_cons.1 hx with rfl|hx
 ·exact h.blk.lt
 rcases List.mem_cons.1 hx with rfl|hx
 ·exact h.net.lt
 exact h.vol.foot_lt x hx
theorem bO.below {w w':World} {s:bL} {d:ay} {nv:Value} (h:bO w s d nv) (hb:Below w.heap.size w w'):bO w' s d nv:=
 ⟨h.blk.below hb h.blk.lt,h.net.below hb h.net.lt,h.vol.below hb,h.ver.below hb,h.apart⟩
theorem bO.to {w w':World} {s:bL} {d d':ay} {nv:Value} (h:bO w s d nv) (t:bW w w' s.xb d d'):bO w' s d' nv:=
 ⟨t.turned.blk h.blk (h.apart _ (by simp[bL.foot])),t.turned.blk h.net (h.apart _ (by simp[bL.foot])),h.vol.away t.turned (fun x hx=>h.apart x (by simp[bL.foot,hx])),t.at',fun x hx hm=>(t.foot x hm).elim (h.apart x hx) (fun hl=>absurd (h.foot_lt x hx) (by omega))⟩
theorem bO.netTo {w w':World} {s:bL} {d:ay} {nv nv':Value} (h:bO w s d nv) (t:ab [s.nb] w w') (hn:dT w' s.nb nv'):bO w' s d nv':=
 have hS:bZ w [s.nb] [133]:=bZ.one h.net.ty
 ⟨t.blk h.blk (h.blk.ty.notin hS (by decide)),hn,h.vol.away t (fun x hx hm=>by simp at hm;subst hm;exact h.vol.notype h.net.ty (by decide) hx),h.ver.away t hS (by decide) (by decide) (by decide) (by decide) (by decide),h.apart⟩
theorem eE (s:bL) (d:ay) (nv:Value) (w:World) (h:bO w s d nv):
  Calls Tryz.prog 18 #[.pointer (some ⟨s.wb,0,none⟩)] w fun e w'=>e= .returned (.bool true)∧w'=w:=by
 have c0:w.cell? ⟨s.wb,0,none⟩=some (.pointer (some ⟨s.nb,0,none⟩)):=h.blk.cell (i:=0) rfl
 go_enter Tryz.func18,Tryz.ntmps18
 go_wp2_with fail
 go_ret
 exact⟨rfl,rfl⟩
theorem lW (s:bL) (d:ay) (nv:Value) (w:World) (h:bO w s d nv):
  Calls Tryz.prog 9 #[.pointer (some ⟨s.wb,0,none⟩)] w fun e w'=>e= .returned (.pointer (some ⟨s.xb,0,none⟩))∧w'=w:=by
 have HH:=Lib.hid h
 clear h
 go_enter Tryz.func9,Tryz.ntmps9
 go_wp2_with fail
 refine(eE s d nv _ HH.out).mono ?_
 rintro e w1 ⟨rfl,rfl⟩
 have c0:w1.cell? ⟨s.wb,7,none⟩=some (.pointer (some ⟨s.xb,0,none⟩)):=HH.out.blk.cell (i:=7) rfl
 go_wp2_with fail
 go_ret
 exact⟨rfl,rfl⟩
theorem mQ (s:bL) (d:ay) (nv:Value) (w:World) (h:bO w s d nv):
  Calls Tryz.prog 10 #[.pointer (some ⟨s.wb,0,none⟩)] w fun e w'=>e= .returned (.pointer (some ⟨s.nb,0,none⟩))∧w'=w:=by
 have HH:=Lib.hid h
 clear h
 go_enter Tryz.func10,Tryz.ntmps10
 go_wp2_with fail
 refine(eE s d nv _ HH.out).mono ?_
 rintro e w1 ⟨rfl,rfl⟩
 have c0:w1.cell? ⟨s.wb,0,none⟩=some (.pointer (some ⟨s.nb,0,none⟩)):=HH.out.blk.cell (i:=0) rfl
 go_wp2_with fail
 go_ret
 exact⟨rfl,rfl⟩
theorem zB (s:bL) (d:ay) (nv:Value) (rb:Nat) (w:World) (h:bO w s d nv) (hr:w.cell? ⟨rb,0,none⟩=some (.pointer (some ⟨s.wb,0,none⟩))):
  Calls Tryz.prog 19 #[.pointer (some ⟨rb,0,none⟩)] w fun e w'=>e= .returned (.bool (decide (1≤d.state)&&decide (d.state≤4)))∧w'=w.drew:=by
 have HH:=Lib.hid h
 have c0:w.cell? ⟨s.wb,7,none⟩=some (.pointer (some ⟨s.xb,0,none⟩)):=h.blk.cell (i:=7) rfl
 clear h
 go_enter Tryz.func19,Tryz.ntmps19
 go_wp2_with fail
 refine(nf s.xb d _ HH.out.ver).mono ?_
 rintro e w1 ⟨rfl,rfl⟩
 clear c0 hr
 by_cases h1:1≤d.state
 ·go_wp2_with fail
  go_ret
  refine⟨?_,rfl⟩
  simp[h1]
 ·go_wp2_with fail
  go_ret
  refine⟨?_,rfl⟩
  rw[decide_eq_false (show¬1≤d.state by omega)]
  rfl
def bu (rd:Bool) (k:Nat) (n:Int) (s:List UInt8):Option (Int×List UInt8):=
 if rd then(if s.length<k then none else some (((aW (s.take k):Nat):Int),s.drop k))else some (n,s++beBytes k n.toNat)
def cp (rd:Bool) (x:ByteArray) (s:List UInt8):Option (ByteArray×List UInt8):=
 if rd then(if s.length<32 then none else some (⟨(s.take 32).toArray⟩,s.drop 32))else some (x,s++x.data.toList)
def cY (rd:Bool) (b:Bool) (s:List UInt8):Option (Bool×List UInt8):=
 match bu rd 1 (if b then 1 else 0) s with
 |none=>none
 |some (n,s1)=>some (decide (n=1),s1)
def ft (rd:Bool) (e l:Int) (s:List UInt8):Option ((Int×Int)×List UInt8):=
 match bu rd 4 e s with
 |none=>none
 |some (e',s1)=>match bu rd 2 l s1 with
  |none=>none
  |some (l',s2)=>some ((e',l'),s2)
def cU (rd:Bool) (x:aN) (s:List UInt8):Option (aN×List UInt8):=
 match cY rd (decide (x≠aN.zero)) s with
 |none=>none
 |some (false,s1)=>some (x,s1)
 |some (true,s1)=>match bu rd 2 x.lba s1 with
  |none=>none
  |some (l',s2)=>match cp rd x.hash s2 with
   |none=>none
   |some (h',s3)=>some (⟨l',h'⟩,s3)
def dS (rd:Bool) (xs:List ByteArray) (s:List UInt8):Nat→Option (List ByteArray×List UInt8)
 |0=>some ([],s)
 |k+1=>match dS rd xs s k with
  |none=>none
  |some (d,s1)=>match cp rd (xs.getD k ⟨#[]⟩) s1 with
   |none=>none
   |some (x,s2)=>some (d++[x],s2)
def dY (rd:Bool) (xs:List ByteArray) (s:List UInt8):Option (List ByteArray×List UInt8):=
 match bu rd 1 (xs.length:Int) s with
 |none=>none
 |some (n,s1)=>dS rd (if rd then List.replicate n.toNat ⟨#[]⟩else xs) s1 (if rd then n.toNat else xs.length)
def textF (rd:Bool) (x:ByteArray) (s:List UInt8):Option (ByteArray×List UInt8):=
 if rd then(match dN s with|none=>none|some (t,s1)=>some (⟨t.toArray⟩,s1))else some (x,s++bT x.data.toList)
def lB (rd:Bool) (r:Rec) (s:List UInt8):Option (Rec×List UInt8):=if rd then bM s else some (r,s++cz r)
def lC (rd:Bool) (x:aH) (s:List UInt8):Option (aH×List UInt8):=if rd then cG s else some (x,s++fW x)
def eP (rd:Bool) (t:ar) (s:List UInt8):Option (ar×List UInt8):=
 match bu rd 4 t.slot s with
 |none=>none
 |some (a,s1)=>match textF rd t.cipher s1 with
  |none=>none
  |some (b,s2)=>match cY rd t.found s2 with
   |none=>none
   |some (c,s3)=>match bu rd 4 t.at_ s3 with
    |none=>none
    |some (d,s4)=>match cU rd t.here s4 with
     |none=>none
     |some (e,s5)=>match cU rd t.ahead s5 with
      |none=>none
      |some (f,s6)=>match dY rd t.up s6 with
       |none=>none
       |some (g,s7)=>match dY rd t.left s7 with
        |none=>none
        |some (h,s8)=>some ({t with slot:=a,cipher:=b,found:=c,at_:=d,here:=e,ahead:=f,up:=g,left:=h},s8)
def di (rd:Bool) (t:ar) (s:List UInt8):Option (ar×List UInt8):=
 match ft rd t.askE t.askL s with
 |none=>none
 |some ((e,l),s1)=>match cY rd t.gone s1 with
  |none=>none
  |some (true,s2)=>some ({t with askE:=e,askL:=l,gone:=true},s2)
  |some (false,s2)=>eP rd {t with askE:=e,askL:=l,gone:=false} s2
def bi (rd:Bool) (m:aa) (s:List UInt8):Option (aa×List UInt8):=
 if m.kind=2∨m.kind=3 then(match bu rd 4 m.epoch s with|none=>none|some (e,s1)=>some ({m with epoch:=e},s1))
 else if m.kind=4 then
  match bu rd 4 m.epoch s with
  |none=>none
  |some (e,s1)=>match bu rd 4 m.seq s1 with
   |none=>none
   |some (q,s2)=>match cp rd m.last s2 with
    |none=>none
    |some (l,s3)=>some ({m with epoch:=e,seq:=q,last:=l},s3)
 else if m.kind=5 then(match bu rd 4 m.seq s with|none=>none|some (q,s1)=>some ({m with seq:=q},s1))
 else if m.kind=6 then
  match bu rd 4 m.seq s with
  |none=>none
  |some (q,s1)=>match lB rd m.sld.r s1 with
   |none=>none
   |some (r,s2)=>match cp rd m.sld.tag s2 with
    |none=>none
    |some (t,s3)=>some ({m with seq:=q,sld:=⟨r,t⟩},s3)
 else if m.kind=7 then(match ft rd m.askE m.askL s with|none=>none|some ((e,l),s1)=>some ({m with askE:=e,askL:=l},s1))
 else if m.kind=8 then(match di rd m.told s with|none=>none|some (t,s1)=>some ({m with told:=t},s1))
 else if m.kind=10 then(match lC rd m.rcp s with|none=>none|some (x,s1)=>some ({m with rcp:=x},s1))
 else some (m,s)
def bj (rd:Bool) (m:aa) (s:List UInt8):Option (aa×List UInt8):=
 if m.kind=10 then some (m,s)else(match cp rd m.nonce s with|none=>none|some (x,s1)=>some ({m with nonce:=x},s1))
def cB (rd br:Bool) (m:aa) (s:List UInt8):Option (aa×List UInt8):=
 if(al m.kind&& !br)=true then(match cp rd m.tag s with|none=>none|some (x,s1)=>some ({m with tag:=x},s1))else some (m,s)
def av (rd br:Bool) (m:aa) (s:List UInt8):Option (aa×List UInt8):=
 match bj rd m s with
 |none=>none
 |some (m1,s1)=>match bi rd m1 s1 with
  |none=>none
  |some (m2,s2)=>cB rd br m2 s2
theorem cq {rd:Bool} {k:Nat} {n n':Int} {s s':List UInt8} (h:bu rd k n s=some (n',s')):s'.length≤s.length+k:=by
 unfold bu at h
 split at h
 ·split at h
  ·cases h
  ·injection h with h;injection h with _ h;rw[←h,List.length_drop];omega
 ·injection h with h;injection h with _ h;rw[←h,List.length_append,beBytes_length];omega
theorem pC {rd:Bool} {x x':ByteArray} {s s':List UInt8} (h:cp rd x s=some (x',s')):s'.length≤s.length+(if rd then 0 else x.size):=by
 unfold cp at h
 split at h
 ·split at h
  ·cases h
  ·injection h with h;injection h with _ h;rw[←h,List.length_drop];omega
 ·next hr=>injection h with h;injection h with _ h;rw[←h,List.length_append,if_neg hr];exact Nat.le_refl _
theorem iF {rd b b':Bool} {s s':List UInt8} (h:cY rd b s=some (b',s')):s'.length≤s.length+1:=by
 unfold cY at h
 cases hn:bu rd 1 (if b then 1 else 0) s with
 |none=>rw[hn]at h;cases h
 |some p=>
  rw[hn]at h
  have:=cq hn
  injection h with h;injection h with _ h;rw[←h];exact this
theorem pD {rd:Bool} {e l:Int} {p:Int×Int} {s s':List UInt8} (h:ft rd e l s=some (p,s')):s'.length≤s.length+6:=by
 unfold ft at h
 cases h1:bu rd 4 e s with
 |none=>rw[h1]at h;cases h
 |some p=>
  obtain⟨a,s1⟩:=p
  rw[h1]at h
  simp only at h
  cases h2:bu rd 2 l s1 with
  |none=>rw[h2]at h;cases h
  |some p=>
   obtain⟨b,s2⟩:=p
   rw[h2]at h
   have:=cq h1
   have:=cq h2
   simp only[Option.some.injEq,Prod.mk.injEq]at h
   rw[←h.2];omega
theorem jH {rd:Bool} {x x':aN} {s s':List UInt8} (h:cU rd x s=some (x',s')) (hx:rd=false→x.hash.size≤32):s'.length≤s.length+35:=by
 unfold cU at h
 cases h1:cY rd (decide (x≠aN.zero)) s with
 |none=>rw[h1]at h;cases h
 |some p=>
  obtain⟨a,s1⟩:=p
  rw[h1]at h
  have l1:=iF h1
  cases a with
  |false=>simp only[Option.some.injEq,Prod.mk.injEq]at h;rw[←h.2];omega
  |true=>
   simp only at h
   cases h2:bu rd 2 x.lba s1 with
   |none=>rw[h2]at h;cases h
   |some p=>
    obtain⟨b,s2⟩:=p
    rw[h2]at h
    simp only at h
    cases h3:cp rd x.hash s2 with
    |none=>rw[h3]at h;cases h
    |some p=>
     obtain⟨c,s3⟩:=p
     rw[h3]at h
     have l2:=cq h2
     have l3:=pC h3
     have l4:(if rd then 0 else x.hash.size)≤32:=by cases rd<;>simp[hx]
     simp only[Option.some.injEq,Prod.mk.injEq]at h
     rw[←h.2];omega
theorem kS {rd:Bool} {xs:List ByteArray} (hx:rd=false→∀x∈xs,x.size≤32):∀(k:Nat) {s s':List UInt8} {d:List ByteArray},dS rd xs s k=some (d,s')→s'.length≤s.length+32*k∧d.length=k:=by
 intro k
 induction k with
 |zero=>
  intro s s' d h
  simp only[dS,Option.some.injEq,Prod.mk.injEq]at h
  rw[←h.2,←h.1];simp
 |succ k ih=>
  intro s s' d h
  simp only[dS]at h
  cases h1:dS rd xs s k with
  |none=>rw[h1]at h;cases h
  |some p=>
   obtain⟨d1,s1⟩:=p
   rw[h1]at h
   simp only at h
   have l1:=ih h1
   cases h2:cp rd (xs.getD k ⟨#[]⟩) s1 with
   |none=>rw[h2]at h;cases h
   |some p=>
    obtain⟨x,s2⟩:=p
    rw[h2]at h
    have l2:=pC h2
    have l3:(if rd then 0 else(xs.getD k ⟨#[]⟩).size)≤32:=by
     cases rd with
     |true=>simp
     |false=>
      simp only[Bool.false_eq_true,if_false]
      rw[List.getD_eq_getElem?_getD]
      cases hg:xs[k]? with
      |none=>exact Nat.zero_le _
      |some y=>exact hx rfl y (List.mem_of_getElem? hg)
    simp only[Option.some.injEq,Prod.mk.injEq]at h
    rw[←h.2,←h.1,List.length_append]
    simp only[List.length_cons,List.length_nil]
    omega
theorem uP {rd:Bool} {n n':Int} {s s':List UInt8} (h:bu rd 1 n s=some (n',s')) (hn:rd=false→0≤n∧n<256):0≤n'∧n'<256:=by
 unfold bu at h
 cases rd with
 |false=>simp only[Bool.false_eq_true,if_false,Option.some.injEq,Prod.mk.injEq]at h;rw[←h.1];exact hn rfl
 |true=>
  simp only[if_true]at h
  split at h
  ·cases h
  ·injection h with h;injection h with h _
   have:=iu (s.take 1)
   have h2:(s.take 1).length≤1:=by rw[List.length_take];omega
   have h3:256^(s.take 1).length≤256^1:=Nat.pow_le_pow_right (by omega) h2
   omega
theorem gk {rd:Bool} {xs ys:List ByteArray} {s s':List UInt8} (h:dY rd xs s=some (ys,s')) (hl:rd=false→xs.length≤12) (hx:rd=false→∀x∈xs,x.size≤32):s'.length≤s.length+8200∧ys.length≤256:=by
 unfold dY at h
 cases h1:bu rd 1 (xs.length:Int) s with
 |none=>rw[h1]at h;cases h
 |some p=>
  obtain⟨n,s1⟩:=p
  rw[h1]at h
  simp only at h
  have l1:=cq h1
  have l2:=uP h1 (fun e=>by have:=hl e;omega)
  cases rd with
  |true=>
   simp only[if_true]at h
   have:=kS (rd:=true) (fun e=>by cases e) _ h
   omega
  |false=>
   simp only[Bool.false_eq_true,if_false]at h
   have:=kS hx _ h
   have:=hl rfl
   omega
theorem BC {rd:Bool} {x x':ByteArray} {s s':List UInt8} (h:textF rd x s=some (x',s')):s'.length≤s.length+(if rd then 0 else 4+x.size):=by
 unfold textF at h
 cases rd with
 |true=>
  simp only[if_true]at h
  cases hc:dN s with
  |none=>rw[hc]at h;cases h
  |some p=>
   obtain⟨a,b⟩:=p
   rw[hc]at h
   simp only[Option.some.injEq,Prod.mk.injEq]at h
   have:=(mK hc).2
   rw[←h.2];simpa using this
 |false=>
  simp only[Bool.false_eq_true,if_false,Option.some.injEq,Prod.mk.injEq]at h
  rw[←h.2,List.length_append,bQ]
  simp only[Bool.false_eq_true,if_false]
  show _+(4+x.size)≤_
  exact Nat.le_refl _
theorem nj (k:Nat) (n:Int) (s:List UInt8):bu false k n s=some (n,s++beBytes k n.toNat):=rfl
theorem nm (x:ByteArray) (s:List UInt8):cp false x s=some (x,s++x.data.toList):=rfl
theorem km (b:Bool) (s:List UInt8):cY false b s=some (b,s++jQ b):=by cases b<;>rfl
theorem uQ (e l:Int) (s:List UInt8):ft false e l s=some ((e,l),s++js e l):=by simp[ft,nj,js]
theorem yK (x:aN) (s:List UInt8):cU false x s=some (x,s++kN x):=by
 unfold cU
 rw[km]
 by_cases h:x=aN.zero
 ·simp[h,kN]
 ·simp[h,kN,nj,nm]
theorem FG (xs:List ByteArray) (s:List UInt8):∀k,k≤xs.length→dS false xs s k=some (xs.take k,s++((xs.take k).map (·.data.toList)).flatten):=by
 intro k
 induction k with
 |zero=>intro _;simp[dS]
 |succ k ih=>
  intro hk
  have hg:xs.getD k ⟨#[]⟩=xs[k]'(by omega):=by rw[List.getD_eq_getElem?_getD,List.getElem?_eq_getElem (by omega)];rfl
  simp only[dS,ih (by omega),nm,hg]
  rw[List.take_succ_eq_append_getElem (by omega)]
  simp only[List.map_append,List.map_cons,List.map_nil,List.flatten_append,List.flatten_cons,List.flatten_nil,List.append_nil,List.append_assoc]
theorem qZ (xs:List ByteArray) (s:List UInt8):dY false xs s=some (xs,s++jR xs):=by
 unfold dY
 rw[nj]
 simp only[Bool.false_eq_true,if_false]
 rw[FG _ _ _ (Nat.le_refl _),List.take_length]
 simp[jR]
theorem FH (x:ByteArray) (s:List UInt8):textF false x s=some (x,s++bT x.data.toList):=rfl
theorem GT (r:Rec) (s:List UInt8):lB false r s=some (r,s++cz r):=rfl
theorem GU (x:aH) (s:List UInt8):lC false x s=some (x,s++fW x):=rfl
theorem FI (t:ar) (s:List UInt8):di false t s=some (t,s++jS t):=by
 obtain⟨e,l,g,f,a,h,ah,u,le,sl,ci⟩:=t
 cases g with
 |true=>simp[di,uQ,km,jS]
 |false=>simp[di,eP,uQ,km,nj,FH,yK,qZ,jS]
theorem D3 {m:aa} (h:m.kind=10→m.nonce=⟨#[]⟩) (s:List UInt8):bj false m s=some (m,s++m.nonce.data.toList):=by
 unfold bj
 split
 ·next hk=>rw[h hk];simp
 ·rw[nm]
theorem FK (m:aa) (s:List UInt8):bi false m s=some (m,s++dQ m):=by
 unfold bi dQ
 simp only[nj,nm,uQ,FI,GU,GT]
 split
 ·rfl
 split
 ·simp
 split
 ·rfl
 split
 ·simp
 split
 ·rfl
 split
 ·rfl
 split
 ·rfl
 ·simp
theorem GV {br:Bool} {m:aa} (h:al m.kind=false→m.tag=⟨#[]⟩) (s:List UInt8):cB false br m s=some (m,s++(if br then[]else m.tag.data.toList)):=by
 unfold cB
 cases br with
 |true=>simp
 |false=>
  cases ht:al m.kind with
  |true=>simp[nm]
  |false=>simp[h ht]
theorem D4 {br:Bool} {m:aa} (h1:m.kind=10→m.nonce=⟨#[]⟩) (h2:al m.kind=false→m.tag=⟨#[]⟩) (s:List UInt8):
  av false br m s=some (m,s++m.nonce.data.toList++dQ m++(if br then[]else m.tag.data.toList)):=by
 unfold av
 rw[D3 h1]
 simp only
 rw[FK]
 simp only
 rw[GV h2]
def zC (l:List Rec):List Value:=l.flatMap Rec.cells
theorem D5 (ys:List Rec):∀(j:Nat) (y:Rec),ys[j]?=some y→∀(i:Nat) (u:Value),y.cells[i]?=some u→(zC ys)[j*8+i]?=some u:=by
 induction ys with
 |nil=>intro j y h;simp at h
 |cons a r ih=>
  intro j y h i u hu
  have ha:a.cells.length=8:=rfl
  show(a.cells++zC r)[_]?= _
  cases j with
  |zero=>
   simp at h
   subst h
   have:=(List.getElem?_eq_some_iff.1 hu).1
   rw[List.getElem?_append_left (by omega),Nat.zero_mul,Nat.zero_add]
   exact hu
  |succ j=>
   rw[List.getElem?_append_right (by omega),ha,show(j+1)*8+i-8=j*8+i by omega]
   exact ih j y (by simpa using h) i u hu
theorem mY.below {w w':World} {v:Value} {l:List Rec} (h:mY w v l) {B:Nat} (hb:Below B w w') (hB:w.heap.size≤B):mY w' v l:=by
 refine h.imp id ?_
 rintro⟨g,o,c,h1,h2,h3⟩
 exact⟨g,o,c,h1,by have:=hb.size;omega,fun j x hx i u hu=>by rw[hb.cell (by show g<B;omega)];exact h3 j x hx i u hu⟩
theorem mY.own {w:World} {base n:Nat} {v:Value} {xs:List Rec} (h:w.ownsRow base 59 8 v n (zC xs)) (hn:n=xs.length):mY w v xs:=by
 subst hn
 by_cases h0:xs=[]
 ·subst h0
  exact .inl ⟨rfl,qY h⟩
 ·obtain⟨g,cap,z,rfl,hc,hb,hk⟩:=dA h (List.length_pos_iff.2 h0)
  refine .inr ⟨g,0,cap,rfl,hk.lt,fun j x hx i u hu=> ?_⟩
  refine hk.cell ?_
  have h1:=D5 xs j x hx i u hu
  rw[Nat.zero_add,List.getElem?_append_left (List.getElem?_eq_some_iff.1 h1).1]
  exact h1
theorem Rec.cells_one1 (x:Rec):∀v∈x.cells,v.oneCell'=true:=by intro v hv;simp[Rec.cells]at hv;rcases hv with rfl|rfl|rfl|rfl|rfl|rfl|rfl|rfl<;>rfl
theorem oq {fn:Func} {p u v:Tmp} {ty:TypeId} (h:fn.results=#[.cell p ty, .tmp u, .tmp v]) (tmps:Array Value) (P:Program) (w:World):
  (results fn tmps).run P w=((asAddr (tmps.getD p undef)).run P w).andThen fun a w₁=>((loadVar ty a).run P w₁).andThen fun x w₂=> .ok (.tuple #[x,tmps.getD u undef,tmps.getD v undef]) w₂:=by
 simp only[results,h]
 simp[Sem.run_bind,Result.andThen]
theorem cR {fn:Func} {p u v:Tmp} {ty:TypeId} {cs:List Value} {d:TypeDesc} (h:fn.results=#[.cell p ty, .tmp u, .tmp v]) (tmps:Array Value) (w:World) {b:Nat} (hb:w.rangeAt b 0 cs) (hp:tmps.getD p undef= .pointer (some ⟨b,0,none⟩))
  (hu:Tryz.prog.underlying ty=some d) (hd:d.isRow=true) (hi:(Tryz.prog.info? ty).map (·.size)=some cs.length):
  (results fn tmps).run Tryz.prog w= .ok (.tuple #[.agg cs.toArray,tmps.getD u undef,tmps.getD v undef]) w:=by
 have e:=run_loadVar_mid (P:=Tryz.prog) w b 0 ty cs _ hb hu hd hi
 rw[oq h,hp]
 simp only[asAddr,Sem.run_pure,Result.andThen_ok,e]
theorem pE (w:World):Sem.run Tryz.prog (zeroValue 59) w= .ok (.agg Rec.zero.cells.toArray) w:=by kernel_rfl
def qh (l:List UInt8) (e:Ending):Prop:=
 (∃r left y,bM l=some (r,left)∧e= .returned (.tuple #[r.v, .string y, .int .i64 0])∧ak y left)∨
 (bM l=none∧e= .returned (.tuple #[Rec.zero.v, .string ⟨#[]⟩, .int .i64 3]))
def kT:List Nat:=[1,4,8,4,4,8]
theorem GW:∀(k a:Nat),kT[k]?=some a→1≤a∧a≤8:=by
 intro k a h
 have:=List.mem_of_getElem? h
 simp[kT]at this
 omega
theorem FM:0<kT.length:=by decide
theorem GX:kT.length≤16:=by decide
theorem FN:cF=kT.map (fun(a:Nat)=>(a:Int)):=rfl
theorem vR.any {l:List UInt8} {e:Ending} (h:vR l e):∃x y c,e= .returned (.tuple #[.string x, .string y, .int .i64 c])∧((c=0∧dN l=some (x.data.toList,y.data.toList))∨(c=3∧dN l=none)):=by
 rcases h with⟨a,b,x,y,h1,rfl,tx,ty⟩|⟨h1,rfl⟩
 ·exact⟨x,y,0,rfl, .inl ⟨rfl,by rw[h1,show x.data.toList= _ from tx,show y.data.toList= _ from ty]⟩⟩
 ·exact⟨_,_,3,rfl, .inr ⟨rfl,h1⟩⟩
theorem ln.any {ws:List Nat} {l:List UInt8} {w w':World} {e:Ending} (h:ln ws l w w' e):∃vo c,e= .returned (.tuple #[vo, .int .i64 c])∧((c=0∧∃ns,bn ws l=some ns∧w'.ownsRow w.heap.size 3 1 vo ns.length (ns.map (Value.int .i64))∧ns.length=ws.length)∨(c=3∧bn ws l=none)):=by
 rcases h with⟨ns,vo,h1,rfl,h2,h3⟩|⟨h1,rfl⟩
 ·exact⟨vo,0,rfl, .inl ⟨rfl,ns,h1,h2,h3⟩⟩
 ·exact⟨_,3,rfl, .inr ⟨rfl,h1⟩⟩
theorem sS {l:List UInt8} (h:l.length<29):bM l=none:=by unfold bM;rw[if_pos h]
theorem uR {l:List UInt8} (h:¬l.length<29):bM l=match bn kT (l.take 29),dN (l.drop 29)with
 |some ns,some (root,behind)=>
  match dN behind with
  |some (name,left)=>if aE (nU ns root name)then some (nU ns root name,left)else none
  |none=>none
 |_,_=>none:=by unfold bM kT;rw[if_neg h];rfl
theorem D6 {ns:List Int} (h:ns.length=6):∃a b c d e f,ns=[a,b,c,d,e,f]:=by
 match ns,h with
 |[a,b,c,d,e,f],_=>exact⟨a,b,c,d,e,f,rfl⟩
theorem sT {ws:List Nat} {l:List UInt8} {ns:List Int} (h:bn ws l=some ns):∀x∈ns,Fits x:=by
 induction ws generalizing l ns with
 |nil=>simp only[bn]at h;injection h with h;subst h;intro x hx;simp at hx
 |cons w ws ih=>
  simp only[bn]at h
  split at h
  ·next hg=>
   cases hr:bn ws (l.drop w)with
   |none=>rw[hr]at h;cases h
   |some m=>
    rw[hr]at h
    simp at h
    subst h
    intro x hx
    rcases List.mem_cons.1 hx with rfl|hx
    ·have:=(jK.1 hg).2.2
     unfold Fits
     omega
    ·exact ih hr x hx
  ·cases h
theorem nn (s:ByteArray) (w:World) (hs:s.size≤1073741824):
  Calls Tryz.prog 298 #[.string s] w fun e w'=>qh s.data.toList e∧Below w.heap.size w w':=by
 have hl:s.data.toList.length=s.size:=rfl
 have HL:=Lib.hid hl;clear hl
 go_enter Tryz.func298,Tryz.ntmps298
 go_wp2_with ((with_reducible refine af 59 Rec.zero.cells pE (some 2) ?hgd ?ho ?hd ?_);(case hgd|ho|hd=>rfl);(intro b2 w2 l2 B2 e2 z2))
 refine(lu _).mono ?_
 rintro e w3 ⟨v3,rfl,hv3,hb3⟩
 have HB3:=Lib.hid (B2.below hb3 z2)
 have HW3:=Lib.hid ((e2.mono l2).trans (hb3.mono (by have:=e2.size;omega)))
 clear B2 e2 z2 hb3
 obtain⟨g3,o3,c3,rfl,hg3,hc3⟩:=hv3.at (by decide)
 rw[show cF.length=6 from rfl]
 have HC3:=Lib.hid hc3
 clear hc3 hv3
 go_wp2_with fail
 go_loop [5,19] (fun x i=>∃k:Nat,k≤6∧i= .int .i64 k∧x= .int .i64 ((sumTo kT k:Nat):Int)) (fun _ i=>6-(intOf i).toNat)
 case atStart=>exact⟨0,by omega,rfl,rfl⟩
 case round=>
  obtain⟨k,hk,rfl,rfl⟩:=hrel
  obtain⟨x,hx⟩:∃x,x=sumTo kT k:=⟨_,rfl⟩
  rw[←hx]
  have hx8:x≤29:=by have:=sumTo_le kT k;rw[←hx]at this;exact this
  have HX:=Lib.hid hx;clear hx
  by_cases hlt:k<6
  ·have hlt':(k:Int)<6:=by omega
   have h00:(0:Int)≤(k:Int):=by omega
   obtain⟨a,ha⟩:∃a,kT[k]?=some a:=⟨_,List.getElem?_eq_getElem (by exact hlt)⟩
   have hca:w3.cell? ⟨g3,o3+k,none⟩=some (.int .i64 (a:Int)):=HC3.out k a (by rw[FN,List.getElem?_map,ha];rfl)
   have ha8:a≤8:=by
    have:=fe ha
    have h:=(List.getElem?_eq_some_iff.1 ha)
    obtain⟨h1,rfl⟩:=h
    have:∀(k:Nat) (h:k<kT.length),kT[k]≤8:=by decide
    exact this k h1
   have hsu:=fe ha
   rw[←HX.out]at hsu
   have HSU:=Lib.hid hsu;clear hsu ha
   go_wp2_with fail
   go_round
   case rel=>exact⟨k+1,by omega,by go_num,by rw[HSU.out];go_num⟩
   case measure=>simp[intOf];omega
  ·obtain rfl:k=6:=by omega
   obtain rfl:x=29:=HX.out
   clear HX hx8 hlt
   by_cases c1:s.size<29
   ·have d1:(s.size:Int)<29:=by omega
    go_wp2_with ((with_reducible refine ae 59 (.tmp 2) (.tmp 31) b2 Rec.zero.cells Rec.zero.cells 59 HB3.out rfl aS (Rec.cells_one1 _) ?hgd ?ho ?hx ?hy ?_);(case hgd|ho|hx|hy=>rfl);(intro w9 B9 o9))
    (try simp only[Exit.inBlock,Exit.then]);refine bodyPost_ret (cR rfl _ _ B9.range rfl Tryz.underlying59 rfl aS) rfl ⟨.inr ⟨sS (by rw[HL.out];omega),rfl⟩,o9.below HW3.out l2⟩
   have d1:(29:Int)≤s.size:=by omega
   have hrt:=uR (l:=s.data.toList) (by rw[HL.out];omega)
   have HRT:=Lib.hid hrt;clear hrt
   have tz:ak (s.extract 0 29) (s.data.toList.take 29):=((ak.self s).extract 0 29).cast (by simp)
   have hz:(s.extract 0 29).size=29:=by rw[tz.size,List.length_take,HL.out];omega
   have HZ:=Lib.hid hz;clear hz
   have TZ:=Lib.hid tz;clear tz
   have ty:ak (s.extract 29 s.size) (s.data.toList.drop 29):=((ak.self s).extract 29 s.size).cast (by rw[List.take_of_length_le (by rw[HL.out];omega)])
   have TY:=Lib.hid ty;clear ty
   clear c1
   go_wp2_with fail
   go_region_with ((first
    |(go_at_call 283;refine(lu _).mono ?_;rintro e wA ⟨vA,rfl,hvA,hbA⟩)
    |(go_at_call 291;refine(lI vA kT (s.extract 0 29) _ hvA GW (by rw[HZ.out];rfl) FM GX).mono ?_;rintro e wB ⟨he,hbB⟩;obtain⟨vo,cu,rfl,hu⟩:=he.any;clear he)
    |fail))
   have hb3B:=bt ((Below.refl w3.heap.size w3).drew) (bt hbA hbB)
   have HBB:=Lib.hid (HB3.out.below hb3B (by have:=HB3.out.lt;exact this))
   have HWB:=Lib.hid (HW3.out.trans (hb3B.mono HW3.out.size))
   clear hb3B hbA hvA
   go_wp2_with fail
   refine(nO (s.extract 29 s.size) _).mono ?_
   rintro e wC ⟨he,hbC⟩
   obtain⟨x1,y1,f1,rfl,h1⟩:=he.any
   clear he
   have HBC:=Lib.hid (HBB.out.below hbC HBB.out.lt)
   have HWC:=Lib.hid (HWB.out.trans (hbC.mono HWB.out.size))
   go_wp2_with fail
   refine(nO y1 _).mono ?_
   rintro e wD ⟨he,hbD⟩
   obtain⟨x2,y2,f2,rfl,h2⟩:=he.any
   clear he
   have HBD:=Lib.hid (HBC.out.below hbD HBC.out.lt)
   have HWD:=Lib.hid (HWC.out.trans (hbD.mono HWC.out.size))
   rw[show(s.extract 0 29).data.toList= _ from TZ.out]at hu
   rw[show(s.extract 29 s.size).data.toList= _ from TY.out]at h1
   rcases hu with⟨rfl,ns,hu,hown,hlen⟩|⟨rfl,hu⟩
   rotate_left
   ·have HR0:Hid (bM s.data.toList=none):=Lib.hid (by rw[HRT.out,hu])
    clear hu h1 h2
    go_wp2_with ((with_reducible refine ae 59 (.tmp 2) (.tmp 64) b2 Rec.zero.cells Rec.zero.cells 59 HBD.out rfl aS (Rec.cells_one1 _) ?hgd ?ho ?hx ?hy ?_);(case hgd|ho|hx|hy=>rfl);(intro w9 B9 o9))
    (try simp only[Exit.inBlock,Exit.then]);refine bodyPost_ret (cR rfl _ _ B9.range rfl Tryz.underlying59 rfl aS) rfl ⟨.inr ⟨HR0.out,rfl⟩,o9.below HWD.out l2⟩
   rcases h1 with⟨rfl,h1⟩|⟨rfl,h1⟩
   rotate_left
   ·have HR0:Hid (bM s.data.toList=none):=Lib.hid (by rw[HRT.out,hu,h1])
    clear hu h1 h2 hown
    go_wp2_with ((with_reducible refine ae 59 (.tmp 2) (.tmp 64) b2 Rec.zero.cells Rec.zero.cells 59 HBD.out rfl aS (Rec.cells_one1 _) ?hgd ?ho ?hx ?hy ?_);(case hgd|ho|hx|hy=>rfl);(intro w9 B9 o9))
    (try simp only[Exit.inBlock,Exit.then]);refine bodyPost_ret (cR rfl _ _ B9.range rfl Tryz.underlying59 rfl aS) rfl ⟨.inr ⟨HR0.out,rfl⟩,o9.below HWD.out l2⟩
   rcases h2 with⟨rfl,h2⟩|⟨rfl,h2⟩
   rotate_left
   ·have HR0:Hid (bM s.data.toList=none):=Lib.hid (by rw[HRT.out,hu,h1];simp only;rw[h2])
    clear hu h1 h2 hown
    go_wp2_with ((with_reducible refine ae 59 (.tmp 2) (.tmp 64) b2 Rec.zero.cells Rec.zero.cells 59 HBD.out rfl aS (Rec.cells_one1 _) ?hgd ?ho ?hx ?hy ?_);(case hgd|ho|hx|hy=>rfl);(intro w9 B9 o9))
    (try simp only[Exit.inBlock,Exit.then]);refine bodyPost_ret (cR rfl _ _ B9.range rfl Tryz.underlying59 rfl aS) rfl ⟨.inr ⟨HR0.out,rfl⟩,o9.below HWD.out l2⟩
   have hrange:=sT hu
   obtain⟨a,b,c,d,e,f,rfl⟩:=D6 hlen
   obtain⟨g,cap,z,rfl,hcap,hg,hblk⟩:=dA hown (by simp)
   have hrec:bM s.data.toList=if aE ⟨a,b,c,d,e,f,x1,x2⟩then some (⟨a,b,c,d,e,f,x1,x2⟩,y2.data.toList)else none:=by
    rw[HRT.out,hu,h1]
    simp only
    rw[h2]
    rfl
   have HREC:=Lib.hid hrec
   have hx2:x2.size≤1073741824:=by
    have q1:=mK h1
    have q2:=mK h2
    have e1:x2.data.toList.length=x2.size:=rfl
    rw[List.length_drop,HL.out]at q1
    omega
   have hfb:Fits b:=hrange b (by simp)
   have hbl:=(hblk.below hbC hblk.lt).below hbD (by have:=hblk.lt;have:=hbC.size;omega)
   have HBL:=Lib.hid hbl
   have i0:wD.cell? ⟨g,0,none⟩=some (.int .i64 a):=hbl.cell (i:=0) rfl
   have i1:wD.cell? ⟨g,1,none⟩=some (.int .i64 b):=hbl.cell (i:=1) rfl
   have i2:wD.cell? ⟨g,2,none⟩=some (.int .i64 c):=hbl.cell (i:=2) rfl
   have i3:wD.cell? ⟨g,3,none⟩=some (.int .i64 d):=hbl.cell (i:=3) rfl
   have i4:wD.cell? ⟨g,4,none⟩=some (.int .i64 e):=hbl.cell (i:=4) rfl
   have i5:wD.cell? ⟨g,5,none⟩=some (.int .i64 f):=hbl.cell (i:=5) rfl
   have hgD:g<wD.heap.size:=hbl.lt
   clear hrec hrange hu h1 h2 hown hlen hblk hbl hbB hbC hbD hg hcap
   go_wp2_with fail
   go_region_held3 (fun w'=>w'.cell? ⟨g,0,none⟩=some (.int .i64 a)∧w'.cell? ⟨g,1,none⟩=some (.int .i64 b)∧w'.cell? ⟨g,2,none⟩=some (.int .i64 c)∧w'.cell? ⟨g,3,none⟩=some (.int .i64 d)∧w'.cell? ⟨g,4,none⟩=some (.int .i64 e)∧w'.cell? ⟨g,5,none⟩=some (.int .i64 f)) (go_keep) (fail)
   all_goals
    have B16:ac (wD.alloc (Obj.cells #[.int .i64 a, .int .i64 b, .int .i64 c, .int .i64 d, .int .i64 e, .int .i64 f, .string x1, .string x2] 59)).drew wD.heap.size (Rec.cells ⟨a,b,c,d,e,f,x1,x2⟩) 59:=ac.new wD (Rec.cells ⟨a,b,c,d,e,f,x1,x2⟩) 59
    have hb16:Below wD.heap.size wD (wD.alloc (Obj.cells #[.int .i64 a, .int .i64 b, .int .i64 c, .int .i64 d, .int .i64 e, .int .i64 f, .string x1, .string x2] 59)).drew:=((Below.refl _ _).alloc (Nat.le_refl _) _).drew
    obtain⟨wE,hwE⟩:∃W,(wD.alloc (Obj.cells #[.int .i64 a, .int .i64 b, .int .i64 c, .int .i64 d, .int .i64 e, .int .i64 f, .string x1, .string x2] 59)).drew=W:=⟨_,rfl⟩
    rw[hwE]at B16 hb16 ⊢
    have HBE:=Lib.hid (HBD.out.below hb16 HBD.out.lt)
    have HWE:=Lib.hid (HWD.out.trans (hb16.mono HWD.out.size))
    have H16:=Lib.hid B16
    clear hwE B16 hb16 i0 i1 i2 i3 i4 i5 HBL hgD
    go_wp2_with ((with_reducible refine au 59 (.tmp 16) wD.heap.size (Rec.cells ⟨a,b,c,d,e,f,x1,x2⟩) 59 _ H16.out Tryz.underlying59 rfl aS ?hgd ?ho ?hx ?_);(case hgd|ho|hx=>rfl))
    refine(gx ⟨a,b,c,d,e,f,x1,x2⟩ _ hx2 hfb).mono ?_
    rintro e wF ⟨rfl,hbF⟩
    have HBF:=Lib.hid (HBE.out.below hbF HBE.out.lt)
    have HWF:=Lib.hid (HWE.out.trans (hbF.mono HWE.out.size))
    have HF16:=Lib.hid (H16.out.below hbF H16.out.lt)
    clear hbF
    cases hok:aE ⟨a,b,c,d,e,f,x1,x2⟩with
    |false=>
     rw[nS hok]
     have hr:=HREC.out
     rw[hok]at hr
     simp only[Bool.false_eq_true,if_false]at hr
     have HR:=Lib.hid hr
     clear hr hok
     go_wp2_with (first
      |((with_reducible refine au 59 (.tmp 16) wD.heap.size (Rec.cells ⟨a,b,c,d,e,f,x1,x2⟩) 59 _ HF16.out Tryz.underlying59 rfl aS ?hgd ?ho ?hx ?_);(case hgd|ho|hx=>rfl))
      |((with_reducible refine ae 59 (.tmp 2) (.tmp 89) b2 Rec.zero.cells (Rec.zero.cells) 59 HBF.out rfl aS (Rec.cells_one1 _) ?hgd ?ho ?hx ?hy ?_);(case hgd|ho|hx|hy=>rfl);(intro w9 B9 o9))
      |fail)
     (try simp only[Exit.inBlock,Exit.then]);refine bodyPost_ret (cR rfl _ _ B9.range rfl Tryz.underlying59 rfl aS) rfl ⟨.inr ⟨HR.out,rfl⟩,o9.below HWF.out l2⟩
    |true=>
     rw[ku hok]
     have hr:=HREC.out
     rw[hok,if_pos rfl]at hr
     have HR:=Lib.hid hr
     clear hr hok
     go_wp2_with (first
      |((with_reducible refine au 59 (.tmp 16) wD.heap.size (Rec.cells ⟨a,b,c,d,e,f,x1,x2⟩) 59 _ HF16.out Tryz.underlying59 rfl aS ?hgd ?ho ?hx ?_);(case hgd|ho|hx=>rfl))
      |((with_reducible refine ae 59 (.tmp 2) (.tmp 90) b2 Rec.zero.cells (Rec.cells ⟨a,b,c,d,e,f,x1,x2⟩) 59 HBF.out rfl aS (Rec.cells_one1 _) ?hgd ?ho ?hx ?hy ?_);(case hgd|ho|hx|hy=>rfl);(intro w9 B9 o9))
      |fail)
     (try simp only[Exit.inBlock,Exit.then]);refine bodyPost_ret (cR rfl _ _ B9.range rfl Tryz.underlying59 rfl aS) rfl ⟨.inl ⟨_,_,_,HR.out,rfl,ak.self _⟩,o9.below HWF.out l2⟩
theorem oP (x:aH) (w:World) (hroot:x.r.root.size≤1048576) (hname:x.r.name.size≤1048576) (hf:Fits x.r.epoch) (hs:Fits x.seq):
  Calls Tryz.prog 224 #[x.v] w fun e w'=>Ends (bX x=true) (fW x) 2 e∧Below w.heap.size w w':=by
 go_enter Tryz.func224,Tryz.ntmps224
 go_wp2_with ((with_reducible refine ai 71 (.tmp 0) x.cells (some 1) ?hgd ?ho ?hd ?hx ?_);(case hgd|ho|hd|hx=>rfl);(intro b w0 l0 B0 e0 z0;have R0:=Lib.hid (dE.blk B0);obtain⟨a0,a1,a2,a3,a4,a5,a6,a7,a8,a9,aA⟩:=R0.out.cells_))
 clear a0 a1 a2 a3 a4 a5 a6 a7 a8 a9 aA
 refine(ml x _ (by omega) hf hs).mono ?_
 rintro e w1 ⟨rfl,hb1⟩
 have R1:=Lib.hid (R0.out.below hb1 z0)
 have HW1:=Lib.hid ((e0.mono l0).trans (hb1.mono (by have:=e0.size;omega)))
 clear R0 B0 e0 l0 z0 hb1
 cases hok:bX x with
 |false=>
  have HK:=Lib.hid hok;clear hok
  go_wp2_with fail
  go_ret2
  exact⟨.inr ⟨by rw[HK.out];simp,rfl⟩,HW1.out⟩
 |true=>
  have HK:=Lib.hid hok
  have hr:=jC hok
  simp only[bX,Bool.and_eq_true,decide_eq_true_eq]at hok
  have hw32:x.was.size≤32:=by omega
  have ht32:x.tag.size≤32:=by omega
  have hsq:0≤x.seq∧x.seq≤4294967295:=by omega
  have HS:=Lib.hid hsq
  have HR:=Lib.hid hr
  clear hok hr hsq
  obtain⟨a0,a1,a2,a3,a4,a5,a6,a7,a8,a9,aA⟩:=R1.out.cells_
  go_wp2_with fail
  clear a0 a1 a2 a3 a4 a5 a6 a7 a8 a9 aA
  refine(gy x.seq _ hs).mono ?_
  rintro e w2 ⟨he,hb2⟩
  obtain⟨q,rfl,tq⟩:=he.yes HS.out
  have sq:q.size≤4:=by rw[tq.size,beBytes_length];omega
  have R2:=Lib.hid (R1.out.below hb2 R1.out.lt)
  have HW2:=Lib.hid (HW1.out.trans (hb2.mono HW1.out.size))
  clear he hb2 R1 HW1
  obtain⟨a0,a1,a2,a3,a4,a5,a6,a7,a8,a9,aA⟩:=R2.out.cells_
  go_wp2_with fail
  clear a0 a1 a2 a3 a4 a5 a6 a7 a8 a9 aA
  refine(jr x.r _ hroot hname hf).mono ?_
  rintro e w3 ⟨⟨hrk,p,rfl,tp⟩|⟨hno,rfl⟩,hb3⟩
  rotate_left
  ·exfalso
   rw[HR.out.1]at hno
   cases hno
  have sp:p.size≤85:=by rw[tp.size];exact cP hrk
  have R3:=Lib.hid (R2.out.below hb3 R2.out.lt)
  have HW3:=Lib.hid (HW2.out.trans (hb3.mono HW2.out.size))
  clear hb3 R2 HW2 hrk
  obtain⟨a0,a1,a2,a3,a4,a5,a6,a7,a8,a9,aA⟩:=R3.out.cells_
  go_wp2_with fail
  go_ret2
  refine⟨.inl ⟨HK.out,_,rfl, ?_⟩,HW3.out⟩
  exact((tq.append (ak.self x.was)).append (ak.self x.tag)).append tp
def zE (l:List UInt8) (e:Ending):Prop:=
 (∃x left y,cG l=some (x,left)∧e= .returned (.tuple #[x.v, .string y, .int .i64 0])∧ak y left)∨
 (cG l=none∧e= .returned (.tuple #[aH.zero.v, .string ⟨#[]⟩, .int .i64 3]))
theorem D7 {T G:Prop} (h:T→G) (t:T):G:=h t
theorem uS {s:ByteArray} (h:¬s.size<68):cG s.data.toList=match bM (s.data.toList.drop 68)with
 |some (r,left)=>if bX ⟨((aW (s.data.toList.take 4):Nat):Int),r,s.extract 4 36,s.extract 36 68⟩then some (⟨((aW (s.data.toList.take 4):Nat):Int),r,s.extract 4 36,s.extract 36 68⟩,left)else none
 |none=>none:=by
 have hl:s.data.toList.length=s.size:=rfl
 have e1:s.extract 4 36=⟨((s.data.toList.drop 4).take 32).toArray⟩:=(((ak.self s).extract 4 36).cast (by rw[List.drop_take])).of
 have e2:s.extract 36 68=⟨((s.data.toList.drop 36).take 32).toArray⟩:=(((ak.self s).extract 36 68).cast (by rw[List.drop_take])).of
 rw[e1,e2]
 unfold cG
 rw[if_neg (by rw[hl];exact h)]
 rfl
theorem sU {s:ByteArray} (h:s.size<68):cG s.data.toList=none:=by unfold cG;rw[if_pos (by exact h)]
theorem uT (s:ByteArray) (w:World) (hs:s.size≤1073741824):
  Calls Tryz.prog 304 #[.string s] w fun e w'=>zE s.data.toList e∧Below w.heap.size w w':=by
 have hl:s.data.toList.length=s.size:=rfl
 have HL:=Lib.hid hl;clear hl
 by_cases c1:s.size<68
 ·have d1:(s.size:Int)<68:=by omega
  have HR0:=Lib.hid (sU c1)
  clear c1
  go_enter Tryz.func304,Tryz.ntmps304
  go_wp2_with (first
   |((with_reducible refine af 71 aH.zero.cells iC (some 2) ?hgd ?ho ?hd ?_);(case hgd|ho|hd=>rfl);(intro b2 w2 l2 B2 e2 z2))
   |((with_reducible refine ae 71 (.tmp 2) (.tmp 14) b2 aH.zero.cells aH.zero.cells 71 B2 rfl bI (aH.cells_one _) ?hgd ?ho ?hx ?hy ?_);(case hgd|ho|hx|hy=>rfl);(intro w9 B9 o9))
   |fail)
  (try simp only[Exit.inBlock,Exit.then]);refine bodyPost_ret (cR rfl _ _ B9.range rfl Tryz.underlying71 rfl bI) rfl ⟨.inr ⟨HR0.out,rfl⟩,o9.below (e2.mono l2) l2⟩
 have d1:(68:Int)≤s.size:=by omega
 have d36:(36:Int)≤s.size:=by omega
 have HRT:=Lib.hid (uS c1)
 have tg:ak (s.extract 0 4) (s.data.toList.take 4):=((ak.self s).extract 0 4).cast (by simp)
 have TG:=Lib.hid tg
 have tz:ak (s.extract 68 s.size) (s.data.toList.drop 68):=((ak.self s).extract 68 s.size).cast (by rw[List.take_of_length_le (by rw[HL.out];omega)])
 have hzs:(s.extract 68 s.size).size≤1073741824:=by rw[tz.size,List.length_drop,HL.out];omega
 have TZ:=Lib.hid tz
 have HZS:=Lib.hid hzs
 have hn4:aW (s.data.toList.take 4)<4294967296:=by
  have:=iu (s.data.toList.take 4)
  rw[List.length_take,HL.out,Nat.min_eq_left (by omega)]at this
  simpa using this
 obtain⟨n,hn⟩:∃n,aW (s.data.toList.take 4)=n:=⟨_,rfl⟩
 have HN:=Lib.hid hn
 rw[hn]at hn4
 have hnf:Fits ((n:Nat):Int):=by unfold Fits;omega
 have HNF:=Lib.hid hnf
 clear tg tz hzs hn hnf
 go_enter Tryz.func304,Tryz.ntmps304
 go_wp2_with ((with_reducible refine af 71 aH.zero.cells iC (some 2) ?hgd ?ho ?hd ?_);(case hgd|ho|hd=>rfl);(intro b2 w2 l2 B2 e2 z2))
 have HB2:=Lib.hid B2
 have HW2:=Lib.hid (e2.mono l2)
 clear B2 e2 z2
 refine(iJ (s.extract 0 4) _).mono ?_
 rintro e w3 ⟨he,rfl⟩
 rcases he with⟨hok,rfl⟩|⟨hno,rfl⟩
 rotate_left
 ·exfalso
  rw[show(s.extract 0 4).data.toList= _ from TG.out,List.length_take,HL.out,HN.out]at hno
  omega
 rw[show(s.extract 0 4).data.toList= _ from TG.out,HN.out]
 clear hok
 go_wp2_with fail
 refine(nn (s.extract 68 s.size) _ HZS.out).mono ?_
 rintro e w3 ⟨he,hb3⟩
 have HB3:=Lib.hid (HB2.out.below hb3 HB2.out.lt)
 have HW3:=Lib.hid (HW2.out.trans (hb3.mono HW2.out.size))
 clear hb3 HB2 HW2
 obtain⟨r,y,f,rfl,hrf⟩:∃r y f,e= .returned (.tuple #[r.v, .string y, .int .i64 f])∧((f=0∧bM (s.data.toList.drop 68)=some (r,y.data.toList))∨(f=3∧bM (s.data.toList.drop 68)=none)):=by
  unfold qh at he
  rw[show(s.extract 68 s.size).data.toList= _ from TZ.out]at he
  rcases he with⟨r,left,y,h1,h2,h3⟩|⟨h1,h2⟩
  ·exact⟨r,y,0,h2, .inl ⟨rfl,by rw[h1,show y.data.toList= _ from h3]⟩⟩
  ·exact⟨Rec.zero,_,3,h2, .inr ⟨rfl,h1⟩⟩
 clear he
 have HRF:=Lib.hid hrf
 clear hrf
 go_wp2_with (first
  |((with_reducible refine af 59 Rec.zero.cells pE (some 7) ?hgd ?ho ?hd ?_);(case hgd|ho|hd=>rfl);(intro b7 w7 l7 B7 e7 z7))
  |((with_reducible refine ae 59 (.tmp 7) (.tmp 25) b7 Rec.zero.cells r.cells 59 B7 rfl aS (Rec.cells_one1 _) ?hgd ?ho ?hx ?hy ?_);(case hgd|ho|hx|hy=>rfl);(intro w8 B8 o8))
  |fail)
 have hb8:=o8.below (e7.mono l7) l7
 have HB8:=Lib.hid (HB3.out.below hb8 HB3.out.lt)
 have HW8:=Lib.hid (HW3.out.trans (hb8.mono HW3.out.size))
 have i0:=B8.cell (i:=0) rfl
 have i1:=B8.cell (i:=1) rfl
 have i2:=B8.cell (i:=2) rfl
 have i3:=B8.cell (i:=3) rfl
 have i4:=B8.cell (i:=4) rfl
 have i5:=B8.cell (i:=5) rfl
 have i6:=B8.cell (i:=6) rfl
 have i7:=B8.cell (i:=7) rfl
 have z8:=B8.lt
 clear B7 B8 o8 e7 l7 z7 hb8 HB3 HW3
 apply D7
 ·intro hfin
  go_region_with (fail)
  all_goals exact hfin
 clear i0 i1 i2 i3 i4 i5 i6 i7 d36 d1
 obtain⟨X,hX⟩:∃X:aH,X=⟨((n:Nat):Int),r,s.extract 4 36,s.extract 36 68⟩:=⟨_,rfl⟩
 have B10:ac (w8.alloc (Obj.cells #[.int .i64 ((n:Nat):Int), .int .i64 r.kind, .int .i64 r.epoch, .int .i64 r.time, .int .i64 r.count, .int .i64 r.target, .int .i64 r.till, .string r.root, .string r.name, .string (s.extract 4 36), .string (s.extract 36 68)] 71)).drew w8.heap.size X.cells 71:=by rw[hX];exact ac.new w8 (aH.cells ⟨((n:Nat):Int),r,s.extract 4 36,s.extract 36 68⟩) 71
 have hb10:Below w8.heap.size w8 (w8.alloc (Obj.cells #[.int .i64 ((n:Nat):Int), .int .i64 r.kind, .int .i64 r.epoch, .int .i64 r.time, .int .i64 r.count, .int .i64 r.target, .int .i64 r.till, .string r.root, .string r.name, .string (s.extract 4 36), .string (s.extract 36 68)] 71)).drew:=((Below.refl _ _).alloc (Nat.le_refl _) _).drew
 obtain⟨wE,hwE⟩:∃W,(w8.alloc (Obj.cells #[.int .i64 ((n:Nat):Int), .int .i64 r.kind, .int .i64 r.epoch, .int .i64 r.time, .int .i64 r.count, .int .i64 r.target, .int .i64 r.till, .string r.root, .string r.name, .string (s.extract 4 36), .string (s.extract 36 68)] 71)).drew=W:=⟨_,rfl⟩
 rw[hwE]at B10 hb10 ⊢
 obtain⟨b10,hb10e⟩:∃b,w8.heap.size=b:=⟨_,rfl⟩
 rw[hb10e]at B10 ⊢
 have HBE:=Lib.hid (HB8.out.below hb10 HB8.out.lt)
 have HWE:=Lib.hid (HW8.out.trans (hb10.mono HW8.out.size))
 have HX:=Lib.hid hX
 have R10:=Lib.hid (dE.blk B10)
 clear hwE hb10 hb10e hX B10
 rcases HRF.out with⟨rfl,hrt⟩|⟨rfl,hrt⟩
 rotate_left
 ·have HR0:Hid (cG s.data.toList=none):=Lib.hid (by rw[HRT.out,hrt])
  clear hrt
  go_wp2_with ((with_reducible refine ae 71 (.tmp 2) (.tmp 42) b2 aH.zero.cells (aH.zero.cells) 71 HBE.out rfl bI (aH.cells_one _) ?hgd ?ho ?hx ?hy ?_);(case hgd|ho|hx|hy=>rfl);(intro w9 B9 o9))
  (try simp only[Exit.inBlock,Exit.then]);refine bodyPost_ret (cR rfl _ _ B9.range rfl Tryz.underlying71 rfl bI) rfl ⟨.inr ⟨HR0.out,rfl⟩,o9.below HWE.out l2⟩
 have hR:cG s.data.toList=if bX X then some (X,y.data.toList)else none:=by
  rw[HRT.out,hrt]
  simp only
  rw[HN.out,←HX.out]
 have hrk:=(iL hrt).2
 have hrf:=dc hrk
 have hXn:X.r.name.size≤1073741824:=by rw[HX.out];show r.name.size≤_;omega
 have hXe:Fits X.r.epoch:=by rw[HX.out];show Fits r.epoch;unfold Fits;omega
 have hXs:Fits X.seq:=by rw[HX.out];exact HNF.out
 have HR:=Lib.hid hR
 clear hR hrk hrf hrt
 obtain⟨a0,a1,a2,a3,a4,a5,a6,a7,a8,a9,aA⟩:=R10.out.cells_
 go_wp2_with fail
 clear a0 a1 a2 a3 a4 a5 a6 a7 a8 a9 aA
 refine(ml X _ hXn hXe hXs).mono ?_
 rintro e wF ⟨rfl,hbF⟩
 have HBF:=Lib.hid (HBE.out.below hbF HBE.out.lt)
 have HWF:=Lib.hid (HWE.out.trans (hbF.mono HWE.out.size))
 have RF:=Lib.hid (R10.out.below hbF R10.out.lt)
 clear hbF
 cases hok:bX X with
 |false=>
  have hr:=HR.out
  rw[hok]at hr
  simp only[Bool.false_eq_true,if_false]at hr
  have HR2:=Lib.hid hr
  clear hr hok
  go_wp2_with ((with_reducible refine ae 71 (.tmp 2) (.tmp 42) b2 aH.zero.cells (aH.zero.cells) 71 HBF.out rfl bI (aH.cells_one _) ?hgd ?ho ?hx ?hy ?_);(case hgd|ho|hx|hy=>rfl);(intro w9 B9 o9))
  (try simp only[Exit.inBlock,Exit.then]);refine bodyPost_ret (cR rfl _ _ B9.range rfl Tryz.underlying71 rfl bI) rfl ⟨.inr ⟨HR2.out,rfl⟩,o9.below HWF.out l2⟩
 |true=>
  have hr:=HR.out
  rw[hok,if_pos rfl]at hr
  have HR2:=Lib.hid hr
  clear hr hok
  obtain⟨a0,a1,a2,a3,a4,a5,a6,a7,a8,a9,aA⟩:=RF.out.cells_
  go_wp2_with ((with_reducible refine ae 71 (.tmp 2) (.tmp 43) b2 aH.zero.cells (X.cells) 71 HBF.out rfl bI (aH.cells_one _) ?hgd ?ho ?hx ?hy ?_);(case hgd|ho|hx|hy=>rfl);(intro w9 B9 o9))
  (try simp only[Exit.inBlock,Exit.then]);refine bodyPost_ret (cR rfl _ _ B9.range rfl Tryz.underlying71 rfl bI) rfl ⟨.inl ⟨_,_,_,HR2.out,rfl,ak.self _⟩,o9.below HWF.out l2⟩
end Go.Proofs.YtngiibgdgenidaaGreat
