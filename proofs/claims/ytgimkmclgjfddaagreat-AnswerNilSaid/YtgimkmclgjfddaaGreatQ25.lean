/- What the parts of a message write, and read: one word for both ways. No program in sight. Walks of record.Take, receipt.Put, receipt.Take (chapters 19, 21). Walks of receipt.Put, receipt.Take (chapter 21). -/
import Derived.Test.YtgimkmclgjfddaaGreatQ24
import Derived.Test.YtgimkmclgjfddaaGreatQ13
import Derived.Test.YtgimkmclgjfddaaGreatQ20
import Derived.Deep.RegionHeld3
set_option linter.unusedSimpArgs false
set_option linter.unusedVariables false
set_option maxRecDepth 100000
set_option maxHeartbeats 4000000
namespace Go.Proofs.YtgimkmclgjfddaaGreat
open Go
def bq (rd:Bool) (k:Nat) (n:Int) (s:List UInt8):Option (Int×List UInt8):=
 if rd then(if s.length<k then none else some (((aR (s.take k):Nat):Int),s.drop k))else some (n,s++beBytes k n.toNat)
def cH (rd:Bool) (x:ByteArray) (s:List UInt8):Option (ByteArray×List UInt8):=
 if rd then(if s.length<32 then none else some (⟨(s.take 32).toArray⟩,s.drop 32))else some (x,s++x.data.toList)
def dr (rd:Bool) (b:Bool) (s:List UInt8):Option (Bool×List UInt8):=
 match bq rd 1 (if b then 1 else 0) s with
 |none=>none
 |some (n,s1)=>some (decide (n=1),s1)
def fN (rd:Bool) (e l:Int) (s:List UInt8):Option ((Int×Int)×List UInt8):=
 match bq rd 4 e s with
 |none=>none
 |some (e',s1)=>match bq rd 2 l s1 with
  |none=>none
  |some (l',s2)=>some ((e',l'),s2)
def dh (rd:Bool) (x:aM) (s:List UInt8):Option (aM×List UInt8):=
 match dr rd (decide (x≠aM.zero)) s with
 |none=>none
 |some (false,s1)=>some (x,s1)
 |some (true,s1)=>match bq rd 2 x.lba s1 with
  |none=>none
  |some (l',s2)=>match cH rd x.hash s2 with
   |none=>none
   |some (h',s3)=>some (⟨l',h'⟩,s3)
def eG (rd:Bool) (xs:List ByteArray) (s:List UInt8):Nat→Option (List ByteArray×List UInt8)
 |0=>some ([],s)
 |k+1=>match eG rd xs s k with
  |none=>none
  |some (d,s1)=>match cH rd (xs.getD k ⟨#[]⟩) s1 with
   |none=>none
   |some (x,s2)=>some (d++[x],s2)
def eH (rd:Bool) (xs:List ByteArray) (s:List UInt8):Option (List ByteArray×List UInt8):=
 match bq rd 1 (xs.length:Int) s with
 |none=>none
 |some (n,s1)=>eG rd (if rd then List.replicate n.toNat ⟨#[]⟩else xs) s1 (if rd then n.toNat else xs.length)
def textF (rd:Bool) (x:ByteArray) (s:List UInt8):Option (ByteArray×List UInt8):=
 if rd then(match dZ s with|none=>none|some (t,s1)=>some (⟨t.toArray⟩,s1))else some (x,s++cZ x.data.toList)
def mx (rd:Bool) (r:Rec) (s:List UInt8):Option (Rec×List UInt8):=if rd then bL s else some (r,s++dR r)
def my (rd:Bool) (x:aK) (s:List UInt8):Option (aK×List UInt8):=if rd then cT s else some (x,s++iJ x)
def eQ (rd:Bool) (t:ax) (s:List UInt8):Option (ax×List UInt8):=
 match bq rd 4 t.slot s with
 |none=>none
 |some (a,s1)=>match textF rd t.cipher s1 with
  |none=>none
  |some (b,s2)=>match dr rd t.found s2 with
   |none=>none
   |some (c,s3)=>match bq rd 4 t.at_ s3 with
    |none=>none
    |some (d,s4)=>match dh rd t.here s4 with
     |none=>none
     |some (e,s5)=>match dh rd t.ahead s5 with
      |none=>none
      |some (f,s6)=>match eH rd t.up s6 with
       |none=>none
       |some (g,s7)=>match eH rd t.left s7 with
        |none=>none
        |some (h,s8)=>some ({t with slot:=a,cipher:=b,found:=c,at_:=d,here:=e,ahead:=f,up:=g,left:=h},s8)
def dA (rd:Bool) (t:ax) (s:List UInt8):Option (ax×List UInt8):=
 match fN rd t.askE t.askL s with
 |none=>none
 |some ((e,l),s1)=>match dr rd t.gone s1 with
  |none=>none
  |some (true,s2)=>some ({t with askE:=e,askL:=l,gone:=true},s2)
  |some (false,s2)=>eQ rd {t with askE:=e,askL:=l,gone:=false} s2
def bI (rd:Bool) (m:ac) (s:List UInt8):Option (ac×List UInt8):=
 if m.kind=2∨m.kind=3 then(match bq rd 4 m.epoch s with|none=>none|some (e,s1)=>some ({m with epoch:=e},s1))
 else if m.kind=4 then
  match bq rd 4 m.epoch s with
  |none=>none
  |some (e,s1)=>match bq rd 4 m.seq s1 with
   |none=>none
   |some (q,s2)=>match cH rd m.last s2 with
    |none=>none
    |some (l,s3)=>some ({m with epoch:=e,seq:=q,last:=l},s3)
 else if m.kind=5 then(match bq rd 4 m.seq s with|none=>none|some (q,s1)=>some ({m with seq:=q},s1))
 else if m.kind=6 then
  match bq rd 4 m.seq s with
  |none=>none
  |some (q,s1)=>match mx rd m.sld.r s1 with
   |none=>none
   |some (r,s2)=>match cH rd m.sld.tag s2 with
    |none=>none
    |some (t,s3)=>some ({m with seq:=q,sld:=⟨r,t⟩},s3)
 else if m.kind=7 then(match fN rd m.askE m.askL s with|none=>none|some ((e,l),s1)=>some ({m with askE:=e,askL:=l},s1))
 else if m.kind=8 then(match dA rd m.told s with|none=>none|some (t,s1)=>some ({m with told:=t},s1))
 else if m.kind=10 then(match my rd m.rcp s with|none=>none|some (x,s1)=>some ({m with rcp:=x},s1))
 else some (m,s)
def bi (rd:Bool) (m:ac) (s:List UInt8):Option (ac×List UInt8):=
 if m.kind=10 then some (m,s)else(match cH rd m.nonce s with|none=>none|some (x,s1)=>some ({m with nonce:=x},s1))
def cI (rd br:Bool) (m:ac) (s:List UInt8):Option (ac×List UInt8):=
 if(az m.kind&& !br)=true then(match cH rd m.tag s with|none=>none|some (x,s1)=>some ({m with tag:=x},s1))else some (m,s)
def aB (rd br:Bool) (m:ac) (s:List UInt8):Option (ac×List UInt8):=
 match bi rd m s with
 |none=>none
 |some (m1,s1)=>match bI rd m1 s1 with
  |none=>none
  |some (m2,s2)=>cI rd br m2 s2
theorem cq {rd:Bool} {k:Nat} {n n':Int} {s s':List UInt8} (h:bq rd k n s=some (n',s')):s'.length≤s.length+k:=by
 unfold bq at h
 split at h
 ·split at h
  ·cases h
  ·injection h with h;injection h with _ h;rw[←h,List.length_drop];omega
 ·injection h with h;injection h with _ h;rw[←h,List.length_append,beBytes_length];omega
theorem py {rd:Bool} {x x':ByteArray} {s s':List UInt8} (h:cH rd x s=some (x',s')):s'.length≤s.length+(if rd then 0 else x.size):=by
 unfold cH at h
 split at h
 ·split at h
  ·cases h
  ·injection h with h;injection h with _ h;rw[←h,List.length_drop];omega
 ·next hr=>injection h with h;injection h with _ h;rw[←h,List.length_append,if_neg hr];exact Nat.le_refl _
theorem iq {rd b b':Bool} {s s':List UInt8} (h:dr rd b s=some (b',s')):s'.length≤s.length+1:=by
 unfold dr at h
 cases hn:bq rd 1 (if b then 1 else 0) s with
 |none=>rw[hn]at h;cases h
 |some p=>
  rw[hn]at h
  have:=cq hn
  injection h with h;injection h with _ h;rw[←h];exact this
theorem pz {rd:Bool} {e l:Int} {p:Int×Int} {s s':List UInt8} (h:fN rd e l s=some (p,s')):s'.length≤s.length+6:=by
 unfold fN at h
 cases h1:bq rd 4 e s with
 |none=>rw[h1]at h;cases h
 |some p=>
  obtain⟨a,s1⟩:=p
  rw[h1]at h
  simp only at h
  cases h2:bq rd 2 l s1 with
  |none=>rw[h2]at h;cases h
  |some p=>
   obtain⟨b,s2⟩:=p
   rw[h2]at h
   have:=cq h1
   have:=cq h2
   simp only[Option.some.injEq,Prod.mk.injEq]at h
   rw[←h.2];omega
theorem jw {rd:Bool} {x x':aM} {s s':List UInt8} (h:dh rd x s=some (x',s')) (hx:rd=false→x.hash.size≤32):s'.length≤s.length+35:=by
 unfold dh at h
 cases h1:dr rd (decide (x≠aM.zero)) s with
 |none=>rw[h1]at h;cases h
 |some p=>
  obtain⟨a,s1⟩:=p
  rw[h1]at h
  have l1:=iq h1
  cases a with
  |false=>simp only[Option.some.injEq,Prod.mk.injEq]at h;rw[←h.2];omega
  |true=>
   simp only at h
   cases h2:bq rd 2 x.lba s1 with
   |none=>rw[h2]at h;cases h
   |some p=>
    obtain⟨b,s2⟩:=p
    rw[h2]at h
    simp only at h
    cases h3:cH rd x.hash s2 with
    |none=>rw[h3]at h;cases h
    |some p=>
     obtain⟨c,s3⟩:=p
     rw[h3]at h
     have l2:=cq h2
     have l3:=py h3
     have l4:(if rd then 0 else x.hash.size)≤32:=by cases rd<;>simp[hx]
     simp only[Option.some.injEq,Prod.mk.injEq]at h
     rw[←h.2];omega
theorem kT {rd:Bool} {xs:List ByteArray} (hx:rd=false→∀x∈xs,x.size≤32):∀(k:Nat) {s s':List UInt8} {d:List ByteArray},eG rd xs s k=some (d,s')→s'.length≤s.length+32*k∧d.length=k:=by
 intro k
 induction k with
 |zero=>
  intro s s' d h
  simp only[eG,Option.some.injEq,Prod.mk.injEq]at h
  rw[←h.2,←h.1];simp
 |succ k ih=>
  intro s s' d h
  simp only[eG]at h
  cases h1:eG rd xs s k with
  |none=>rw[h1]at h;cases h
  |some p=>
   obtain⟨d1,s1⟩:=p
   rw[h1]at h
   simp only at h
   have l1:=ih h1
   cases h2:cH rd (xs.getD k ⟨#[]⟩) s1 with
   |none=>rw[h2]at h;cases h
   |some p=>
    obtain⟨x,s2⟩:=p
    rw[h2]at h
    have l2:=py h2
    have l3:(if rd then 0 else(xs.getD k ⟨#[]⟩).size)≤32:=by
     cases rd with
     |true=>simp
     |false=>
      simp only[Bool.false_eq_true,if_false]
      rw[List.getD_eq_getElem?_getD]
      cases hg:xs[k]? with
      |none=>exact Nat.zero_le _
      |some y=>exact hx rfl y (List.mem_of_getElem? hg)
    simp only[Option.some.injEq,Prod.mk.injEq]at h
    rw[←h.2,←h.1,List.length_append]
    simp only[List.length_cons,List.length_nil]
    omega
theorem vg {rd:Bool} {n n':Int} {s s':List UInt8} (h:bq rd 1 n s=some (n',s')) (hn:rd=false→0≤n∧n<256):0≤n'∧n'<256:=by
 unfold bq at h
 cases rd with
 |false=>simp only[Bool.false_eq_true,if_false,Option.some.injEq,Prod.mk.injEq]at h;rw[←h.1];exact hn rfl
 |true=>
  simp only[if_true]at h
  split at h
  ·cases h
  ·injection h with h;injection h with h _
   have:=gg (s.take 1)
   have h2:(s.take 1).length≤1:=by rw[List.length_take];omega
   have h3:256^(s.take 1).length≤256^1:=Nat.pow_le_pow_right (by omega) h2
   omega
theorem fX {rd:Bool} {xs ys:List ByteArray} {s s':List UInt8} (h:eH rd xs s=some (ys,s')) (hl:rd=false→xs.length≤12) (hx:rd=false→∀x∈xs,x.size≤32):s'.length≤s.length+8200∧ys.length≤256:=by
 unfold eH at h
 cases h1:bq rd 1 (xs.length:Int) s with
 |none=>rw[h1]at h;cases h
 |some p=>
  obtain⟨n,s1⟩:=p
  rw[h1]at h
  simp only at h
  have l1:=cq h1
  have l2:=vg h1 (fun e=>by have:=hl e;omega)
  cases rd with
  |true=>
   simp only[if_true]at h
   have:=kT (rd:=true) (fun e=>by cases e) _ h
   omega
  |false=>
   simp only[Bool.false_eq_true,if_false]at h
   have:=kT hx _ h
   have:=hl rfl
   omega
theorem Cj {rd:Bool} {x x':ByteArray} {s s':List UInt8} (h:textF rd x s=some (x',s')):s'.length≤s.length+(if rd then 0 else 4+x.size):=by
 unfold textF at h
 cases rd with
 |true=>
  simp only[if_true]at h
  cases hc:dZ s with
  |none=>rw[hc]at h;cases h
  |some p=>
   obtain⟨a,b⟩:=p
   rw[hc]at h
   simp only[Option.some.injEq,Prod.mk.injEq]at h
   have:=(mO hc).2
   rw[←h.2];simpa using this
 |false=>
  simp only[Bool.false_eq_true,if_false,Option.some.injEq,Prod.mk.injEq]at h
  rw[←h.2,List.length_append,bg]
  simp only[Bool.false_eq_true,if_false]
  show _+(4+x.size)≤_
  exact Nat.le_refl _
theorem nA (k:Nat) (n:Int) (s:List UInt8):bq false k n s=some (n,s++beBytes k n.toNat):=rfl
theorem nB (x:ByteArray) (s:List UInt8):cH false x s=some (x,s++x.data.toList):=rfl
theorem ka (b:Bool) (s:List UInt8):dr false b s=some (b,s++mr b):=by cases b<;>rfl
theorem vh (e l:Int) (s:List UInt8):fN false e l s=some ((e,l),s++mw e l):=by simp[fN,nA,mw]
theorem yz (x:aM) (s:List UInt8):dh false x s=some (x,s++nY x):=by
 unfold dh
 rw[ka]
 by_cases h:x=aM.zero
 ·simp[h,nY]
 ·simp[h,nY,nA,nB]
theorem FR (xs:List ByteArray) (s:List UInt8):∀k,k≤xs.length→eG false xs s k=some (xs.take k,s++((xs.take k).map (·.data.toList)).flatten):=by
 intro k
 induction k with
 |zero=>intro _;simp[eG]
 |succ k ih=>
  intro hk
  have hg:xs.getD k ⟨#[]⟩=xs[k]'(by omega):=by rw[List.getD_eq_getElem?_getD,List.getElem?_eq_getElem (by omega)];rfl
  simp only[eG,ih (by omega),nB,hg]
  rw[List.take_succ_eq_append_getElem (by omega)]
  simp only[List.map_append,List.map_cons,List.map_nil,List.flatten_append,List.flatten_cons,List.flatten_nil,List.append_nil,List.append_assoc]
theorem rk (xs:List ByteArray) (s:List UInt8):eH false xs s=some (xs,s++mt xs):=by
 unfold eH
 rw[nA]
 simp only[Bool.false_eq_true,if_false]
 rw[FR _ _ _ (Nat.le_refl _),List.take_length]
 simp[mt]
theorem FS (x:ByteArray) (s:List UInt8):textF false x s=some (x,s++cZ x.data.toList):=rfl
theorem Ib (r:Rec) (s:List UInt8):mx false r s=some (r,s++dR r):=rfl
theorem Ic (x:aK) (s:List UInt8):my false x s=some (x,s++iJ x):=rfl
theorem FT (t:ax) (s:List UInt8):dA false t s=some (t,s++nZ t):=by
 obtain⟨e,l,g,f,a,h,ah,u,le,sl,ci⟩:=t
 cases g with
 |true=>simp[dA,vh,ka,nZ]
 |false=>simp[dA,eQ,vh,ka,nA,FS,yz,rk,nZ]
theorem Ek {m:ac} (h:m.kind=10→m.nonce=⟨#[]⟩) (s:List UInt8):bi false m s=some (m,s++m.nonce.data.toList):=by
 unfold bi
 split
 ·next hk=>rw[h hk];simp
 ·rw[nB]
theorem FU (m:ac) (s:List UInt8):bI false m s=some (m,s++ob m):=by
 unfold bI ob
 simp only[nA,nB,vh,FT,Ic,Ib]
 split
 ·rfl
 split
 ·simp
 split
 ·rfl
 split
 ·simp
 split
 ·rfl
 split
 ·rfl
 split
 ·rfl
 ·simp
theorem Ie {br:Bool} {m:ac} (h:az m.kind=false→m.tag=⟨#[]⟩) (s:List UInt8):cI false br m s=some (m,s++(if br then[]else m.tag.data.toList)):=by
 unfold cI
 cases br with
 |true=>simp
 |false=>
  cases ht:az m.kind with
  |true=>simp[nB]
  |false=>simp[h ht]
theorem Em {br:Bool} {m:ac} (h1:m.kind=10→m.nonce=⟨#[]⟩) (h2:az m.kind=false→m.tag=⟨#[]⟩) (s:List UInt8):
  aB false br m s=some (m,s++m.nonce.data.toList++ob m++(if br then[]else m.tag.data.toList)):=by
 unfold aB
 rw[Ek h1]
 simp only
 rw[FU]
 simp only
 rw[Ie h2]
open Go.RowKit
theorem ol {fn:Func} {p u v:Tmp} {ty:TypeId} (h:fn.results=#[.cell p ty, .tmp u, .tmp v]) (tmps:Array Value) (P:Program) (w:World):
  (results fn tmps).run P w=((asAddr (tmps.getD p undef)).run P w).andThen fun a w₁=>((loadVar ty a).run P w₁).andThen fun x w₂=> .ok (.tuple #[x,tmps.getD u undef,tmps.getD v undef]) w₂:=by
 simp only[results,h]
 simp[Sem.run_bind,Result.andThen]
theorem cQ {fn:Func} {p u v:Tmp} {ty:TypeId} {cs:List Value} {d:TypeDesc} (h:fn.results=#[.cell p ty, .tmp u, .tmp v]) (tmps:Array Value) (w:World) {b:Nat} (hb:w.rangeAt b 0 cs) (hp:tmps.getD p undef= .pointer (some ⟨b,0,none⟩))
  (hu:Tryz.prog.underlying ty=some d) (hd:d.isRow=true) (hi:(Tryz.prog.info? ty).map (·.size)=some cs.length):
  (results fn tmps).run Tryz.prog w= .ok (.tuple #[.agg cs.toArray,tmps.getD u undef,tmps.getD v undef]) w:=by
 have e:=run_loadVar_mid (P:=Tryz.prog) w b 0 ty cs _ hb hu hd hi
 rw[ol h,hp]
 simp only[asAddr,Sem.run_pure,Result.andThen_ok,e]
theorem pA (w:World):Sem.run Tryz.prog (zeroValue 25) w= .ok (.agg Rec.zero.cells.toArray) w:=by kernel_rfl
def qn (l:List UInt8) (e:Ending):Prop:=
 (∃r left y,bL l=some (r,left)∧e= .returned (.tuple #[r.v, .string y, .int .i64 0])∧aj y left)∨
 (bL l=none∧e= .returned (.tuple #[Rec.zero.v, .string ⟨#[]⟩, .int .i64 3]))
def kU:List Nat:=[1,4,8,4,4,8]
theorem Ig:∀(k a:Nat),kU[k]?=some a→1≤a∧a≤8:=by
 intro k a h
 have:=List.mem_of_getElem? h
 simp[kU]at this
 omega
theorem FV:0<kU.length:=by decide
theorem Ih:kU.length≤16:=by decide
theorem FW:bW=kU.map (fun(a:Nat)=>(a:Int)):=rfl
theorem uh.any {l:List UInt8} {e:Ending} (h:uh l e):∃x y c,e= .returned (.tuple #[.string x, .string y, .int .i64 c])∧((c=0∧dZ l=some (x.data.toList,y.data.toList))∨(c=3∧dZ l=none)):=by
 rcases h with⟨a,b,x,y,h1,rfl,tx,ty⟩|⟨h1,rfl⟩
 ·exact⟨x,y,0,rfl, .inl ⟨rfl,by rw[h1,show x.data.toList= _ from tx,show y.data.toList= _ from ty]⟩⟩
 ·exact⟨_,_,3,rfl, .inr ⟨rfl,h1⟩⟩
theorem kK.any {ws:List Nat} {l:List UInt8} {w w':World} {e:Ending} (h:kK ws l w w' e):∃vo c,e= .returned (.tuple #[vo, .int .i64 c])∧((c=0∧∃ns,bB ws l=some ns∧w'.ownsRow w.heap.size 3 1 vo ns.length (ns.map (Value.int .i64))∧ns.length=ws.length)∨(c=3∧bB ws l=none)):=by
 rcases h with⟨ns,vo,h1,rfl,h2,h3⟩|⟨h1,rfl⟩
 ·exact⟨vo,0,rfl, .inl ⟨rfl,ns,h1,h2,h3⟩⟩
 ·exact⟨_,3,rfl, .inr ⟨rfl,h1⟩⟩
theorem sQ {l:List UInt8} (h:l.length<29):bL l=none:=by unfold bL;rw[if_pos h]
theorem vj {l:List UInt8} (h:¬l.length<29):bL l=match bB kU (l.take 29),dZ (l.drop 29)with
 |some ns,some (root,behind)=>
  match dZ behind with
  |some (name,left)=>if am (tH ns root name)then some (tH ns root name,left)else none
  |none=>none
 |_,_=>none:=by unfold bL kU;rw[if_neg h];rfl
theorem En {ns:List Int} (h:ns.length=6):∃a b c d e f,ns=[a,b,c,d,e,f]:=by
 match ns,h with
 |[a,b,c,d,e,f],_=>exact⟨a,b,c,d,e,f,rfl⟩
theorem sR {ws:List Nat} {l:List UInt8} {ns:List Int} (h:bB ws l=some ns):∀x∈ns,Fits x:=by
 induction ws generalizing l ns with
 |nil=>simp only[bB]at h;injection h with h;subst h;intro x hx;simp at hx
 |cons w ws ih=>
  simp only[bB]at h
  split at h
  ·next hg=>
   cases hr:bB ws (l.drop w)with
   |none=>rw[hr]at h;cases h
   |some m=>
    rw[hr]at h
    simp at h
    subst h
    intro x hx
    rcases List.mem_cons.1 hx with rfl|hx
    ·have:=(li.1 hg).2.2
     unfold Fits
     omega
    ·exact ih hr x hx
  ·cases h
theorem nC (s:ByteArray) (w:World) (hs:s.size≤1073741824):
  Calls Tryz.prog 192 #[.string s] w fun e w'=>qn s.data.toList e∧Below w.heap.size w w':=by
 have hl:s.data.toList.length=s.size:=rfl
 have HL:=Lib.hid hl;clear hl
 go_enter Tryz.func192,Tryz.ntmps192
 go_wp2_with ((with_reducible refine ai 25 Rec.zero.cells pA (some 2) ?hgd ?ho ?hd ?_);(case hgd|ho|hd=>rfl);(intro b2 w2 l2 B2 e2 z2))
 refine(lr _).mono ?_
 rintro e w3 ⟨v3,rfl,hv3,hb3⟩
 have HB3:=Lib.hid (B2.below hb3 z2)
 have HW3:=Lib.hid ((e2.mono l2).trans (hb3.mono (by have:=e2.size;omega)))
 clear B2 e2 z2 hb3
 obtain⟨g3,o3,c3,rfl,hg3,hc3⟩:=hv3.at (by decide)
 rw[show bW.length=6 from rfl]
 have HC3:=Lib.hid hc3
 clear hc3 hv3
 go_wp2_with fail
 go_loop [5,19] (fun x i=>∃k:Nat,k≤6∧i= .int .i64 k∧x= .int .i64 ((sumTo kU k:Nat):Int)) (fun _ i=>6-(intOf i).toNat)
 case atStart=>exact⟨0,by omega,rfl,rfl⟩
 case round=>
  obtain⟨k,hk,rfl,rfl⟩:=hrel
  obtain⟨x,hx⟩:∃x,x=sumTo kU k:=⟨_,rfl⟩
  rw[←hx]
  have hx8:x≤29:=by have:=sumTo_le kU k;rw[←hx]at this;exact this
  have HX:=Lib.hid hx;clear hx
  by_cases hlt:k<6
  ·have hlt':(k:Int)<6:=by omega
   have h00:(0:Int)≤(k:Int):=by omega
   obtain⟨a,ha⟩:∃a,kU[k]?=some a:=⟨_,List.getElem?_eq_getElem (by exact hlt)⟩
   have hca:w3.cell? ⟨g3,o3+k,none⟩=some (.int .i64 (a:Int)):=HC3.out k a (by rw[FW,List.getElem?_map,ha];rfl)
   have ha8:a≤8:=by
    have:=eO ha
    have h:=(List.getElem?_eq_some_iff.1 ha)
    obtain⟨h1,rfl⟩:=h
    have:∀(k:Nat) (h:k<kU.length),kU[k]≤8:=by decide
    exact this k h1
   have hsu:=eO ha
   rw[←HX.out]at hsu
   have HSU:=Lib.hid hsu;clear hsu ha
   go_wp2_with fail
   go_round
   case rel=>exact⟨k+1,by omega,by go_num,by rw[HSU.out];go_num⟩
   case measure=>simp[intOf];omega
  ·obtain rfl:k=6:=by omega
   obtain rfl:x=29:=HX.out
   clear HX hx8 hlt
   by_cases c1:s.size<29
   ·have d1:(s.size:Int)<29:=by omega
    go_wp2_with ((with_reducible refine af 25 (.tmp 2) (.tmp 31) b2 Rec.zero.cells Rec.zero.cells 25 HB3.out rfl aI (Rec.cells_one1 _) ?hgd ?ho ?hx ?hy ?_);(case hgd|ho|hx|hy=>rfl);(intro w9 B9 o9))
    (try simp only[Exit.inBlock,Exit.then]);refine bodyPost_ret (cQ rfl _ _ B9.range rfl Tryz.underlying25 rfl aI) rfl ⟨.inr ⟨sQ (by rw[HL.out];omega),rfl⟩,o9.below HW3.out l2⟩
   have d1:(29:Int)≤s.size:=by omega
   have hrt:=vj (l:=s.data.toList) (by rw[HL.out];omega)
   have HRT:=Lib.hid hrt;clear hrt
   have tz:aj (s.extract 0 29) (s.data.toList.take 29):=((aj.self s).extract 0 29).cast (by simp)
   have hz:(s.extract 0 29).size=29:=by rw[tz.size,List.length_take,HL.out];omega
   have HZ:=Lib.hid hz;clear hz
   have TZ:=Lib.hid tz;clear tz
   have ty:aj (s.extract 29 s.size) (s.data.toList.drop 29):=((aj.self s).extract 29 s.size).cast (by rw[List.take_of_length_le (by rw[HL.out];omega)])
   have TY:=Lib.hid ty;clear ty
   clear c1
   go_wp2_with fail
   go_region_with ((first
    |(go_at_call 283;refine(lr _).mono ?_;rintro e wA ⟨vA,rfl,hvA,hbA⟩)
    |(go_at_call 298;refine(ln vA kU (s.extract 0 29) _ hvA Ig (by rw[HZ.out];rfl) FV Ih).mono ?_;rintro e wB ⟨he,hbB⟩;obtain⟨vo,cu,rfl,hu⟩:=he.any;clear he)
    |fail))
   have hb3B:=bt ((Below.refl w3.heap.size w3).drew) (bt hbA hbB)
   have HBB:=Lib.hid (HB3.out.below hb3B (by have:=HB3.out.lt;exact this))
   have HWB:=Lib.hid (HW3.out.trans (hb3B.mono HW3.out.size))
   clear hb3B hbA hvA
   go_wp2_with fail
   refine(m8 (s.extract 29 s.size) _).mono ?_
   rintro e wC ⟨he,hbC⟩
   obtain⟨x1,y1,f1,rfl,h1⟩:=he.any
   clear he
   have HBC:=Lib.hid (HBB.out.below hbC HBB.out.lt)
   have HWC:=Lib.hid (HWB.out.trans (hbC.mono HWB.out.size))
   go_wp2_with fail
   refine(m8 y1 _).mono ?_
   rintro e wD ⟨he,hbD⟩
   obtain⟨x2,y2,f2,rfl,h2⟩:=he.any
   clear he
   have HBD:=Lib.hid (HBC.out.below hbD HBC.out.lt)
   have HWD:=Lib.hid (HWC.out.trans (hbD.mono HWC.out.size))
   rw[show(s.extract 0 29).data.toList= _ from TZ.out]at hu
   rw[show(s.extract 29 s.size).data.toList= _ from TY.out]at h1
   rcases hu with⟨rfl,ns,hu,hown,hlen⟩|⟨rfl,hu⟩
   rotate_left
   ·have HR0:Hid (bL s.data.toList=none):=Lib.hid (by rw[HRT.out,hu])
    clear hu h1 h2
    go_wp2_with ((with_reducible refine af 25 (.tmp 2) (.tmp 64) b2 Rec.zero.cells Rec.zero.cells 25 HBD.out rfl aI (Rec.cells_one1 _) ?hgd ?ho ?hx ?hy ?_);(case hgd|ho|hx|hy=>rfl);(intro w9 B9 o9))
    (try simp only[Exit.inBlock,Exit.then]);refine bodyPost_ret (cQ rfl _ _ B9.range rfl Tryz.underlying25 rfl aI) rfl ⟨.inr ⟨HR0.out,rfl⟩,o9.below HWD.out l2⟩
   rcases h1 with⟨rfl,h1⟩|⟨rfl,h1⟩
   rotate_left
   ·have HR0:Hid (bL s.data.toList=none):=Lib.hid (by rw[HRT.out,hu,h1])
    clear hu h1 h2 hown
    go_wp2_with ((with_reducible refine af 25 (.tmp 2) (.tmp 64) b2 Rec.zero.cells Rec.zero.cells 25 HBD.out rfl aI (Rec.cells_one1 _) ?hgd ?ho ?hx ?hy ?_);(case hgd|ho|hx|hy=>rfl);(intro w9 B9 o9))
    (try simp only[Exit.inBlock,Exit.then]);refine bodyPost_ret (cQ rfl _ _ B9.range rfl Tryz.underlying25 rfl aI) rfl ⟨.inr ⟨HR0.out,rfl⟩,o9.below HWD.out l2⟩
   rcases h2 with⟨rfl,h2⟩|⟨rfl,h2⟩
   rotate_left
   ·have HR0:Hid (bL s.data.toList=none):=Lib.hid (by rw[HRT.out,hu,h1];simp only;rw[h2])
    clear hu h1 h2 hown
    go_wp2_with ((with_reducible refine af 25 (.tmp 2) (.tmp 64) b2 Rec.zero.cells Rec.zero.cells 25 HBD.out rfl aI (Rec.cells_one1 _) ?hgd ?ho ?hx ?hy ?_);(case hgd|ho|hx|hy=>rfl);(intro w9 B9 o9))
    (try simp only[Exit.inBlock,Exit.then]);refine bodyPost_ret (cQ rfl _ _ B9.range rfl Tryz.underlying25 rfl aI) rfl ⟨.inr ⟨HR0.out,rfl⟩,o9.below HWD.out l2⟩
   have hrange:=sR hu
   obtain⟨a,b,c,d,e,f,rfl⟩:=En hlen
   obtain⟨g,cap,z,rfl,hcap,hg,hblk⟩:=cY hown (by simp)
   have hrec:bL s.data.toList=if am ⟨a,b,c,d,e,f,x1,x2⟩then some (⟨a,b,c,d,e,f,x1,x2⟩,y2.data.toList)else none:=by
    rw[HRT.out,hu,h1]
    simp only
    rw[h2]
    rfl
   have HREC:=Lib.hid hrec
   have hx2:x2.size≤1073741824:=by
    have q1:=mO h1
    have q2:=mO h2
    have e1:x2.data.toList.length=x2.size:=rfl
    rw[List.length_drop,HL.out]at q1
    omega
   have hfb:Fits b:=hrange b (by simp)
   have hbl:=(hblk.below hbC hblk.lt).below hbD (by have:=hblk.lt;have:=hbC.size;omega)
   have HBL:=Lib.hid hbl
   have i0:wD.cell? ⟨g,0,none⟩=some (.int .i64 a):=hbl.cell (i:=0) rfl
   have i1:wD.cell? ⟨g,1,none⟩=some (.int .i64 b):=hbl.cell (i:=1) rfl
   have i2:wD.cell? ⟨g,2,none⟩=some (.int .i64 c):=hbl.cell (i:=2) rfl
   have i3:wD.cell? ⟨g,3,none⟩=some (.int .i64 d):=hbl.cell (i:=3) rfl
   have i4:wD.cell? ⟨g,4,none⟩=some (.int .i64 e):=hbl.cell (i:=4) rfl
   have i5:wD.cell? ⟨g,5,none⟩=some (.int .i64 f):=hbl.cell (i:=5) rfl
   have hgD:g<wD.heap.size:=hbl.lt
   clear hrec hrange hu h1 h2 hown hlen hblk hbl hbB hbC hbD hg hcap
   go_wp2_with fail
   go_region_held3 (fun w'=>w'.cell? ⟨g,0,none⟩=some (.int .i64 a)∧w'.cell? ⟨g,1,none⟩=some (.int .i64 b)∧w'.cell? ⟨g,2,none⟩=some (.int .i64 c)∧w'.cell? ⟨g,3,none⟩=some (.int .i64 d)∧w'.cell? ⟨g,4,none⟩=some (.int .i64 e)∧w'.cell? ⟨g,5,none⟩=some (.int .i64 f)) (go_keep) (fail)
   all_goals
    have B16:ab (wD.alloc (Obj.cells #[.int .i64 a, .int .i64 b, .int .i64 c, .int .i64 d, .int .i64 e, .int .i64 f, .string x1, .string x2] 25)).drew wD.heap.size (Rec.cells ⟨a,b,c,d,e,f,x1,x2⟩) 25:=ab.new wD (Rec.cells ⟨a,b,c,d,e,f,x1,x2⟩) 25
    have hb16:Below wD.heap.size wD (wD.alloc (Obj.cells #[.int .i64 a, .int .i64 b, .int .i64 c, .int .i64 d, .int .i64 e, .int .i64 f, .string x1, .string x2] 25)).drew:=((Below.refl _ _).alloc (Nat.le_refl _) _).drew
    obtain⟨wE,hwE⟩:∃W,(wD.alloc (Obj.cells #[.int .i64 a, .int .i64 b, .int .i64 c, .int .i64 d, .int .i64 e, .int .i64 f, .string x1, .string x2] 25)).drew=W:=⟨_,rfl⟩
    rw[hwE]at B16 hb16 ⊢
    have HBE:=Lib.hid (HBD.out.below hb16 HBD.out.lt)
    have HWE:=Lib.hid (HWD.out.trans (hb16.mono HWD.out.size))
    have H16:=Lib.hid B16
    clear hwE B16 hb16 i0 i1 i2 i3 i4 i5 HBL hgD
    go_wp2_with ((with_reducible refine ar 25 (.tmp 16) wD.heap.size (Rec.cells ⟨a,b,c,d,e,f,x1,x2⟩) 25 _ H16.out Tryz.underlying25 rfl aI ?hgd ?ho ?hx ?_);(case hgd|ho|hx=>rfl))
    refine(gn ⟨a,b,c,d,e,f,x1,x2⟩ _ hx2 hfb).mono ?_
    rintro e wF ⟨rfl,hbF⟩
    have HBF:=Lib.hid (HBE.out.below hbF HBE.out.lt)
    have HWF:=Lib.hid (HWE.out.trans (hbF.mono HWE.out.size))
    have HF16:=Lib.hid (H16.out.below hbF H16.out.lt)
    clear hbF
    cases hok:am ⟨a,b,c,d,e,f,x1,x2⟩with
    |false=>
     rw[nS hok]
     have hr:=HREC.out
     rw[hok]at hr
     simp only[Bool.false_eq_true,if_false]at hr
     have HR:=Lib.hid hr
     clear hr hok
     go_wp2_with (first
      |((with_reducible refine ar 25 (.tmp 16) wD.heap.size (Rec.cells ⟨a,b,c,d,e,f,x1,x2⟩) 25 _ HF16.out Tryz.underlying25 rfl aI ?hgd ?ho ?hx ?_);(case hgd|ho|hx=>rfl))
      |((with_reducible refine af 25 (.tmp 2) (.tmp 89) b2 Rec.zero.cells (Rec.zero.cells) 25 HBF.out rfl aI (Rec.cells_one1 _) ?hgd ?ho ?hx ?hy ?_);(case hgd|ho|hx|hy=>rfl);(intro w9 B9 o9))
      |fail)
     (try simp only[Exit.inBlock,Exit.then]);refine bodyPost_ret (cQ rfl _ _ B9.range rfl Tryz.underlying25 rfl aI) rfl ⟨.inr ⟨HR.out,rfl⟩,o9.below HWF.out l2⟩
    |true=>
     rw[ki hok]
     have hr:=HREC.out
     rw[hok,if_pos rfl]at hr
     have HR:=Lib.hid hr
     clear hr hok
     go_wp2_with (first
      |((with_reducible refine ar 25 (.tmp 16) wD.heap.size (Rec.cells ⟨a,b,c,d,e,f,x1,x2⟩) 25 _ HF16.out Tryz.underlying25 rfl aI ?hgd ?ho ?hx ?_);(case hgd|ho|hx=>rfl))
      |((with_reducible refine af 25 (.tmp 2) (.tmp 90) b2 Rec.zero.cells (Rec.cells ⟨a,b,c,d,e,f,x1,x2⟩) 25 HBF.out rfl aI (Rec.cells_one1 _) ?hgd ?ho ?hx ?hy ?_);(case hgd|ho|hx|hy=>rfl);(intro w9 B9 o9))
      |fail)
     (try simp only[Exit.inBlock,Exit.then]);refine bodyPost_ret (cQ rfl _ _ B9.range rfl Tryz.underlying25 rfl aI) rfl ⟨.inl ⟨_,_,_,HR.out,rfl,aj.self _⟩,o9.below HWF.out l2⟩
theorem oN (x:aK) (w:World) (hroot:x.r.root.size≤1048576) (hname:x.r.name.size≤1048576) (hf:Fits x.r.epoch) (hs:Fits x.seq):
  Calls Tryz.prog 83 #[x.v] w fun e w'=>Ends (cD x=true) (iJ x) 2 e∧Below w.heap.size w w':=by
 go_enter Tryz.func83,Tryz.ntmps83
 go_wp2_with ((with_reducible refine ag 37 (.tmp 0) x.cells (some 1) ?hgd ?ho ?hd ?hx ?_);(case hgd|ho|hd|hx=>rfl);(intro b w0 l0 B0 e0 z0;have R0:=Lib.hid (du.blk B0);obtain⟨a0,a1,a2,a3,a4,a5,a6,a7,a8,a9,aA⟩:=R0.out.cells_))
 clear a0 a1 a2 a3 a4 a5 a6 a7 a8 a9 aA
 refine(mh x _ (by omega) hf hs).mono ?_
 rintro e w1 ⟨rfl,hb1⟩
 have R1:=Lib.hid (R0.out.below hb1 z0)
 have HW1:=Lib.hid ((e0.mono l0).trans (hb1.mono (by have:=e0.size;omega)))
 clear R0 B0 e0 l0 z0 hb1
 cases hok:cD x with
 |false=>
  have HK:=Lib.hid hok;clear hok
  go_wp2_with fail
  go_ret2
  exact⟨.inr ⟨by rw[HK.out];simp,rfl⟩,HW1.out⟩
 |true=>
  have HK:=Lib.hid hok
  have hr:=kS hok
  simp only[cD,Bool.and_eq_true,decide_eq_true_eq]at hok
  have hw32:x.was.size≤32:=by omega
  have ht32:x.tag.size≤32:=by omega
  have hsq:0≤x.seq∧x.seq≤4294967295:=by omega
  have HS:=Lib.hid hsq
  have HR:=Lib.hid hr
  clear hok hr hsq
  obtain⟨a0,a1,a2,a3,a4,a5,a6,a7,a8,a9,aA⟩:=R1.out.cells_
  go_wp2_with fail
  clear a0 a1 a2 a3 a4 a5 a6 a7 a8 a9 aA
  refine(gp x.seq _ hs).mono ?_
  rintro e w2 ⟨he,hb2⟩
  obtain⟨q,rfl,tq⟩:=he.yes HS.out
  have sq:q.size≤4:=by rw[tq.size,beBytes_length];omega
  have R2:=Lib.hid (R1.out.below hb2 R1.out.lt)
  have HW2:=Lib.hid (HW1.out.trans (hb2.mono HW1.out.size))
  clear he hb2 R1 HW1
  obtain⟨a0,a1,a2,a3,a4,a5,a6,a7,a8,a9,aA⟩:=R2.out.cells_
  go_wp2_with fail
  clear a0 a1 a2 a3 a4 a5 a6 a7 a8 a9 aA
  refine(jl x.r _ hroot hname hf).mono ?_
  rintro e w3 ⟨⟨hrk,p,rfl,tp⟩|⟨hno,rfl⟩,hb3⟩
  rotate_left
  ·exfalso
   rw[HR.out.1]at hno
   cases hno
  have sp:p.size≤85:=by rw[tp.size];exact ct hrk
  have R3:=Lib.hid (R2.out.below hb3 R2.out.lt)
  have HW3:=Lib.hid (HW2.out.trans (hb3.mono HW2.out.size))
  clear hb3 R2 HW2 hrk
  obtain⟨a0,a1,a2,a3,a4,a5,a6,a7,a8,a9,aA⟩:=R3.out.cells_
  go_wp2_with fail
  go_ret2
  refine⟨.inl ⟨HK.out,_,rfl, ?_⟩,HW3.out⟩
  exact((tq.append (aj.self x.was)).append (aj.self x.tag)).append tp
def zI (l:List UInt8) (e:Ending):Prop:=
 (∃x left y,cT l=some (x,left)∧e= .returned (.tuple #[x.v, .string y, .int .i64 0])∧aj y left)∨
 (cT l=none∧e= .returned (.tuple #[aK.zero.v, .string ⟨#[]⟩, .int .i64 3]))
theorem Eo {T G:Prop} (h:T→G) (t:T):G:=h t
theorem vl {s:ByteArray} (h:¬s.size<68):cT s.data.toList=match bL (s.data.toList.drop 68)with
 |some (r,left)=>if cD ⟨((aR (s.data.toList.take 4):Nat):Int),r,s.extract 4 36,s.extract 36 68⟩then some (⟨((aR (s.data.toList.take 4):Nat):Int),r,s.extract 4 36,s.extract 36 68⟩,left)else none
 |none=>none:=by
 have hl:s.data.toList.length=s.size:=rfl
 have e1:s.extract 4 36=⟨((s.data.toList.drop 4).take 32).toArray⟩:=(((aj.self s).extract 4 36).cast (by rw[List.drop_take])).of
 have e2:s.extract 36 68=⟨((s.data.toList.drop 36).take 32).toArray⟩:=(((aj.self s).extract 36 68).cast (by rw[List.drop_take])).of
 rw[e1,e2]
 unfold cT
 rw[if_neg (by rw[hl];exact h)]
 rfl
theorem sS {s:ByteArray} (h:s.size<68):cT s.data.toList=none:=by unfold cT;rw[if_pos (by exact h)]
theorem vm (s:ByteArray) (w:World) (hs:s.size≤1073741824):
  Calls Tryz.prog 198 #[.string s] w fun e w'=>zI s.data.toList e∧Below w.heap.size w w':=by
 have hl:s.data.toList.length=s.size:=rfl
 have HL:=Lib.hid hl;clear hl
 by_cases c1:s.size<68
 ·have d1:(s.size:Int)<68:=by omega
  have HR0:=Lib.hid (sS c1)
  clear c1
  go_enter Tryz.func198,Tryz.ntmps198
  go_wp2_with (first
   |((with_reducible refine ai 37 aK.zero.cells il (some 2) ?hgd ?ho ?hd ?_);(case hgd|ho|hd=>rfl);(intro b2 w2 l2 B2 e2 z2))
   |((with_reducible refine af 37 (.tmp 2) (.tmp 14) b2 aK.zero.cells aK.zero.cells 37 B2 rfl bf (aK.cells_one _) ?hgd ?ho ?hx ?hy ?_);(case hgd|ho|hx|hy=>rfl);(intro w9 B9 o9))
   |fail)
  (try simp only[Exit.inBlock,Exit.then]);refine bodyPost_ret (cQ rfl _ _ B9.range rfl Tryz.underlying37 rfl bf) rfl ⟨.inr ⟨HR0.out,rfl⟩,o9.below (e2.mono l2) l2⟩
 have d1:(68:Int)≤s.size:=by omega
 have d36:(36:Int)≤s.size:=by omega
 have HRT:=Lib.hid (vl c1)
 have tg:aj (s.extract 0 4) (s.data.toList.take 4):=((aj.self s).extract 0 4).cast (by simp)
 have TG:=Lib.hid tg
 have tz:aj (s.extract 68 s.size) (s.data.toList.drop 68):=((aj.self s).extract 68 s.size).cast (by rw[List.take_of_length_le (by rw[HL.out];omega)])
 have hzs:(s.extract 68 s.size).size≤1073741824:=by rw[tz.size,List.length_drop,HL.out];omega
 have TZ:=Lib.hid tz
 have HZS:=Lib.hid hzs
 have hn4:aR (s.data.toList.take 4)<4294967296:=by
  have:=gg (s.data.toList.take 4)
  rw[List.length_take,HL.out,Nat.min_eq_left (by omega)]at this
  simpa using this
 obtain⟨n,hn⟩:∃n,aR (s.data.toList.take 4)=n:=⟨_,rfl⟩
 have HN:=Lib.hid hn
 rw[hn]at hn4
 have hnf:Fits ((n:Nat):Int):=by unfold Fits;omega
 have HNF:=Lib.hid hnf
 clear tg tz hzs hn hnf
 go_enter Tryz.func198,Tryz.ntmps198
 go_wp2_with ((with_reducible refine ai 37 aK.zero.cells il (some 2) ?hgd ?ho ?hd ?_);(case hgd|ho|hd=>rfl);(intro b2 w2 l2 B2 e2 z2))
 have HB2:=Lib.hid B2
 have HW2:=Lib.hid (e2.mono l2)
 clear B2 e2 z2
 refine(ix (s.extract 0 4) _).mono ?_
 rintro e w3 ⟨he,rfl⟩
 rcases he with⟨hok,rfl⟩|⟨hno,rfl⟩
 rotate_left
 ·exfalso
  rw[show(s.extract 0 4).data.toList= _ from TG.out,List.length_take,HL.out,HN.out]at hno
  omega
 rw[show(s.extract 0 4).data.toList= _ from TG.out,HN.out]
 clear hok
 go_wp2_with fail
 refine(nC (s.extract 68 s.size) _ HZS.out).mono ?_
 rintro e w3 ⟨he,hb3⟩
 have HB3:=Lib.hid (HB2.out.below hb3 HB2.out.lt)
 have HW3:=Lib.hid (HW2.out.trans (hb3.mono HW2.out.size))
 clear hb3 HB2 HW2
 obtain⟨r,y,f,rfl,hrf⟩:∃r y f,e= .returned (.tuple #[r.v, .string y, .int .i64 f])∧((f=0∧bL (s.data.toList.drop 68)=some (r,y.data.toList))∨(f=3∧bL (s.data.toList.drop 68)=none)):=by
  unfold qn at he
  rw[show(s.extract 68 s.size).data.toList= _ from TZ.out]at he
  rcases he with⟨r,left,y,h1,h2,h3⟩|⟨h1,h2⟩
  ·exact⟨r,y,0,h2, .inl ⟨rfl,by rw[h1,show y.data.toList= _ from h3]⟩⟩
  ·exact⟨Rec.zero,_,3,h2, .inr ⟨rfl,h1⟩⟩
 clear he
 have HRF:=Lib.hid hrf
 clear hrf
 go_wp2_with (first
  |((with_reducible refine ai 25 Rec.zero.cells pA (some 7) ?hgd ?ho ?hd ?_);(case hgd|ho|hd=>rfl);(intro b7 w7 l7 B7 e7 z7))
  |((with_reducible refine af 25 (.tmp 7) (.tmp 25) b7 Rec.zero.cells r.cells 25 B7 rfl aI (Rec.cells_one1 _) ?hgd ?ho ?hx ?hy ?_);(case hgd|ho|hx|hy=>rfl);(intro w8 B8 o8))
  |fail)
 have hb8:=o8.below (e7.mono l7) l7
 have HB8:=Lib.hid (HB3.out.below hb8 HB3.out.lt)
 have HW8:=Lib.hid (HW3.out.trans (hb8.mono HW3.out.size))
 have i0:=B8.cell (i:=0) rfl
 have i1:=B8.cell (i:=1) rfl
 have i2:=B8.cell (i:=2) rfl
 have i3:=B8.cell (i:=3) rfl
 have i4:=B8.cell (i:=4) rfl
 have i5:=B8.cell (i:=5) rfl
 have i6:=B8.cell (i:=6) rfl
 have i7:=B8.cell (i:=7) rfl
 have z8:=B8.lt
 clear B7 B8 o8 e7 l7 z7 hb8 HB3 HW3
 apply Eo
 ·intro hfin
  go_region_with (fail)
  all_goals exact hfin
 clear i0 i1 i2 i3 i4 i5 i6 i7 d36 d1
 obtain⟨X,hX⟩:∃X:aK,X=⟨((n:Nat):Int),r,s.extract 4 36,s.extract 36 68⟩:=⟨_,rfl⟩
 have B10:ab (w8.alloc (Obj.cells #[.int .i64 ((n:Nat):Int), .int .i64 r.kind, .int .i64 r.epoch, .int .i64 r.time, .int .i64 r.count, .int .i64 r.target, .int .i64 r.till, .string r.root, .string r.name, .string (s.extract 4 36), .string (s.extract 36 68)] 37)).drew w8.heap.size X.cells 37:=by rw[hX];exact ab.new w8 (aK.cells ⟨((n:Nat):Int),r,s.extract 4 36,s.extract 36 68⟩) 37
 have hb10:Below w8.heap.size w8 (w8.alloc (Obj.cells #[.int .i64 ((n:Nat):Int), .int .i64 r.kind, .int .i64 r.epoch, .int .i64 r.time, .int .i64 r.count, .int .i64 r.target, .int .i64 r.till, .string r.root, .string r.name, .string (s.extract 4 36), .string (s.extract 36 68)] 37)).drew:=((Below.refl _ _).alloc (Nat.le_refl _) _).drew
 obtain⟨wE,hwE⟩:∃W,(w8.alloc (Obj.cells #[.int .i64 ((n:Nat):Int), .int .i64 r.kind, .int .i64 r.epoch, .int .i64 r.time, .int .i64 r.count, .int .i64 r.target, .int .i64 r.till, .string r.root, .string r.name, .string (s.extract 4 36), .string (s.extract 36 68)] 37)).drew=W:=⟨_,rfl⟩
 rw[hwE]at B10 hb10 ⊢
 obtain⟨b10,hb10e⟩:∃b,w8.heap.size=b:=⟨_,rfl⟩
 rw[hb10e]at B10 ⊢
 have HBE:=Lib.hid (HB8.out.below hb10 HB8.out.lt)
 have HWE:=Lib.hid (HW8.out.trans (hb10.mono HW8.out.size))
 have HX:=Lib.hid hX
 have R10:=Lib.hid (du.blk B10)
 clear hwE hb10 hb10e hX B10
 rcases HRF.out with⟨rfl,hrt⟩|⟨rfl,hrt⟩
 rotate_left
 ·have HR0:Hid (cT s.data.toList=none):=Lib.hid (by rw[HRT.out,hrt])
  clear hrt
  go_wp2_with ((with_reducible refine af 37 (.tmp 2) (.tmp 42) b2 aK.zero.cells (aK.zero.cells) 37 HBE.out rfl bf (aK.cells_one _) ?hgd ?ho ?hx ?hy ?_);(case hgd|ho|hx|hy=>rfl);(intro w9 B9 o9))
  (try simp only[Exit.inBlock,Exit.then]);refine bodyPost_ret (cQ rfl _ _ B9.range rfl Tryz.underlying37 rfl bf) rfl ⟨.inr ⟨HR0.out,rfl⟩,o9.below HWE.out l2⟩
 have hR:cT s.data.toList=if cD X then some (X,y.data.toList)else none:=by
  rw[HRT.out,hrt]
  simp only
  rw[HN.out,←HX.out]
 have hrk:=(iI hrt).2
 have hrf:=dd hrk
 have hXn:X.r.name.size≤1073741824:=by rw[HX.out];show r.name.size≤_;omega
 have hXe:Fits X.r.epoch:=by rw[HX.out];show Fits r.epoch;unfold Fits;omega
 have hXs:Fits X.seq:=by rw[HX.out];exact HNF.out
 have HR:=Lib.hid hR
 clear hR hrk hrf hrt
 obtain⟨a0,a1,a2,a3,a4,a5,a6,a7,a8,a9,aA⟩:=R10.out.cells_
 go_wp2_with fail
 clear a0 a1 a2 a3 a4 a5 a6 a7 a8 a9 aA
 refine(mh X _ hXn hXe hXs).mono ?_
 rintro e wF ⟨rfl,hbF⟩
 have HBF:=Lib.hid (HBE.out.below hbF HBE.out.lt)
 have HWF:=Lib.hid (HWE.out.trans (hbF.mono HWE.out.size))
 have RF:=Lib.hid (R10.out.below hbF R10.out.lt)
 clear hbF
 cases hok:cD X with
 |false=>
  have hr:=HR.out
  rw[hok]at hr
  simp only[Bool.false_eq_true,if_false]at hr
  have HR2:=Lib.hid hr
  clear hr hok
  go_wp2_with ((with_reducible refine af 37 (.tmp 2) (.tmp 42) b2 aK.zero.cells (aK.zero.cells) 37 HBF.out rfl bf (aK.cells_one _) ?hgd ?ho ?hx ?hy ?_);(case hgd|ho|hx|hy=>rfl);(intro w9 B9 o9))
  (try simp only[Exit.inBlock,Exit.then]);refine bodyPost_ret (cQ rfl _ _ B9.range rfl Tryz.underlying37 rfl bf) rfl ⟨.inr ⟨HR2.out,rfl⟩,o9.below HWF.out l2⟩
 |true=>
  have hr:=HR.out
  rw[hok,if_pos rfl]at hr
  have HR2:=Lib.hid hr
  clear hr hok
  obtain⟨a0,a1,a2,a3,a4,a5,a6,a7,a8,a9,aA⟩:=RF.out.cells_
  go_wp2_with ((with_reducible refine af 37 (.tmp 2) (.tmp 43) b2 aK.zero.cells (X.cells) 37 HBF.out rfl bf (aK.cells_one _) ?hgd ?ho ?hx ?hy ?_);(case hgd|ho|hx|hy=>rfl);(intro w9 B9 o9))
  (try simp only[Exit.inBlock,Exit.then]);refine bodyPost_ret (cQ rfl _ _ B9.range rfl Tryz.underlying37 rfl bf) rfl ⟨.inl ⟨_,_,_,HR2.out,rfl,aj.self _⟩,o9.below HWF.out l2⟩
end Go.Proofs.YtgimkmclgjfddaaGreat
