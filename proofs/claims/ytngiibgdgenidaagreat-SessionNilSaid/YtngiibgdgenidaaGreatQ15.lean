/- What bytes begin with: texts, numbers, records, receipts; and that each leads back to its bytes (chapters 1, 19, 21). No program in sight. Messages of an audit, as plain data: what may be, and its bytes (chapter 27). No program in sight. -/
import Derived.Test.YtngiibgdgenidaaGreatQ14
import Derived.Test.YtngiibgdgenidaaGreatQ6
import Derived.Test.YtngiibgdgenidaaGreatQ9
import Derived.Test.YtngiibgdgenidaaGreatQ13
import Derived.StillTailTactics
import Derived.OrdersHeld
import Derived.StringKeys
import Derived.Test.YtngiibgdgenidaaGreatQ4
import Derived.Maps.OwnSet
import Derived.Maps.OwnOps
import Derived.Maps.RangeWalk
import Derived.Carry
import Derived.WalkSpells
import Derived.Deep.QuietTactic
import Derived.BigQuiet
set_option linter.unusedSimpArgs false
set_option linter.unusedVariables false
set_option maxRecDepth 100000
set_option maxHeartbeats 4000000
namespace Go.Proofs.YtngiibgdgenidaaGreat
open Go
def nU (l:List Int) (root name:List UInt8):Rec:=⟨l.getD 0 0,l.getD 1 0,l.getD 2 0,l.getD 3 0,l.getD 4 0,l.getD 5 0,⟨root.toArray⟩,⟨name.toArray⟩⟩
def bM (l:List UInt8):Option (Rec×List UInt8):=
 if l.length<29 then none else
 match bn [1,4,8,4,4,8] (l.take 29),dN (l.drop 29)with
 |some ns,some (root,behind)=>
  match dN behind with
  |some (name,left)=>if aE (nU ns root name)then some (nU ns root name,left)else none
  |none=>none
 |_,_=>none
theorem wS {l:List UInt8} {ns:List Int} (hl:l.length=29) (h:bn [1,4,8,4,4,8] l=some ns):
  ∃a b c d e f:Nat,ns=[(a:Int),b,c,d,e,f]∧l=beBytes 1 a++(beBytes 4 b++(beBytes 8 c++(beBytes 4 d++(beBytes 4 e++beBytes 8 f)))):=by
 simp only[bn]at h
 have key:∀{rest:Option (List Int)} {n:Int} {ok:Bool} {ns:List Int},(if ok=true then rest.map (n::·)else none)=some ns→∃m,rest=some m∧n::m=ns:=by
  intro rest n ok ns h
  split at h
  ·cases rest with
   |none=>cases h
   |some m=>simp at h;exact⟨m,rfl,h⟩
  ·cases h
 obtain⟨m1,h,e1⟩:=key h
 obtain⟨m2,h,e2⟩:=key h
 obtain⟨m3,h,e3⟩:=key h
 obtain⟨m4,h,e4⟩:=key h
 obtain⟨m5,h,e5⟩:=key h
 obtain⟨m6,h,e6⟩:=key h
 injection h with h
 subst h
 subst e6 e5 e4 e3 e2 e1
 refine⟨_,_,_,_,_,_,rfl, ?_⟩
 rw[dC 1 _ (by simp;omega),dC 4 _ (by simp;omega),dC 8 _ (by simp;omega),dC 4 _ (by simp;omega),dC 4 _ (by simp;omega),dC 8 _ (by simp;omega)]
 rw[List.take_of_length_le (l:=List.drop 4 (List.drop 4 (List.drop 8 (List.drop 4 (List.drop 1 l))))) (by simp;omega),List.take_append_drop,List.take_append_drop,List.take_append_drop,List.take_append_drop,List.take_append_drop]
theorem rT (a b c d e f:Int):fm cF [a,b,c,d,e,f]=beBytes 1 a.toNat++(beBytes 4 b.toNat++(beBytes 8 c.toNat++(beBytes 4 d.toNat++(beBytes 4 e.toNat++beBytes 8 f.toNat)))):=by
 simp[fm,cF]
theorem iL {l s:List UInt8} {r:Rec} (h:bM l=some (r,s)):l=cz r++s∧aE r=true:=by
 unfold bM at h
 split at h
 ·cases h
 ·next hl=>
  cases hu:bn [1,4,8,4,4,8] (l.take 29)with
  |none=>rw[hu]at h;cases h
  |some ns=>
   cases hc:dN (l.drop 29)with
   |none=>rw[hu,hc]at h;cases h
   |some p=>
    obtain⟨root,behind⟩:=p
    rw[hu,hc]at h
    simp only at h
    cases hd:dN behind with
    |none=>rw[hd]at h;cases h
    |some q=>
     obtain⟨name,left⟩:=q
     rw[hd]at h
     simp only at h
     split at h
     ·next hok=>
      injection h with h
      injection h with h1 h2
      subst h1 h2
      refine⟨?_,hok⟩
      obtain⟨a,b,c,d,e,f,rfl,hb⟩:=wS (by rw[List.length_take];omega) hu
      have e1:=(nN hc).1
      have e2:=(nN hd).1
      conv=>lhs;rw[←List.take_append_drop 29 l,hb,e1,e2]
      show _=fm cF [(a:Int),b,c,d,e,f]++bT root++bT name++left
      rw[rT]
      simp
     ·cases h
theorem mZ (w n:Nat) (s:List UInt8):(beBytes w n++s).take w=beBytes w n:=by
 rw[List.take_append_of_le_length (by rw[beBytes_length];omega),List.take_of_length_le (by rw[beBytes_length];omega)]
theorem m0 (w n:Nat) (s:List UInt8):(beBytes w n++s).drop w=s:=by
 rw[List.drop_append_of_le_length (by rw[beBytes_length];omega),List.drop_of_length_le (by rw[beBytes_length];omega),List.nil_append]
theorem fp {w n:Nat} {ws:List Nat} {s:List UInt8} (hw:1≤w∧w≤8) (hn:n<256^w) (hs:n<9223372036854775808):bn (w::ws) (beBytes w n++s)=(bn ws s).map ((n:Int)::·):=by
 simp only[bn]
 rw[mZ,m0,ei w n hn,if_pos]
 rw[jK,beBytes_length,ei w n hn]
 omega
theorem oJ {r:Rec} (h:aE r=true) (s:List UInt8):bM (cz r++s)=some (r,s):=by
 have hf:=dc h
 obtain⟨k,e,t,c,g,u,ro,na⟩:=r
 simp only at hf
 have er:ro.data.toList.length=ro.size:=rfl
 have en:na.data.toList.length=na.size:=rfl
 have e0:cz ⟨k,e,t,c,g,u,ro,na⟩++s=(beBytes 1 k.toNat++(beBytes 4 e.toNat++(beBytes 8 t.toNat++(beBytes 4 c.toNat++(beBytes 4 g.toNat++beBytes 8 u.toNat)))))++(bT ro.data.toList++(bT na.data.toList++s)):=by
  show fm cF [k,e,t,c,g,u]++bT ro.data.toList++bT na.data.toList++s= _
  rw[rT]
  simp
 obtain⟨H,hH⟩:∃H,H=(beBytes 1 k.toNat++(beBytes 4 e.toNat++(beBytes 8 t.toNat++(beBytes 4 c.toNat++(beBytes 4 g.toNat++beBytes 8 u.toNat))))):=⟨_,rfl⟩
 have hHl:H.length=29:=by rw[hH];simp[beBytes_length]
 have hu:bn [1,4,8,4,4,8] H=some [k,e,t,c,g,u]:=by
  rw[hH]
  rw[fp (by omega) (by omega) (by omega),fp (by omega) (by omega) (by omega),fp (by omega) (by omega) (by omega),fp (by omega) (by omega) (by omega),fp (by omega) (by omega) (by omega)]
  rw[show beBytes 8 u.toNat=beBytes 8 u.toNat++[] by simp,fp (by omega) (by omega) (by omega)]
  simp only[bn,Option.map_some]
  rw[show((k.toNat:Nat):Int)=k by omega,show((e.toNat:Nat):Int)=e by omega,show((t.toNat:Nat):Int)=t by omega,show((c.toNat:Nat):Int)=c by omega,show((g.toNat:Nat):Int)=g by omega,show((u.toNat:Nat):Int)=u by omega]
 rw[e0,←hH]
 unfold bM
 rw[if_neg (by rw[List.length_append];omega),List.take_append_of_le_length (by omega),List.take_of_length_le (by omega),hu,List.drop_append_of_le_length (by omega),List.drop_of_length_le (by omega),List.nil_append,nM (by omega)]
 simp only
 rw[nM (by omega)]
 simp only
 have er2:nU [k,e,t,c,g,u] ro.data.toList na.data.toList=⟨k,e,t,c,g,u,ro,na⟩:=by
  unfold nU
  simp
 rw[er2,if_pos h]
def fW (x:aH):List UInt8:=beBytes 4 x.seq.toNat++x.was.data.toList++x.tag.data.toList++cz x.r
def cG (l:List UInt8):Option (aH×List UInt8):=
 if l.length<68 then none else
 match bM (l.drop 68)with
 |some (r,left)=>if bX ⟨((aW (l.take 4):Nat):Int),r,⟨((l.drop 4).take 32).toArray⟩,⟨((l.drop 36).take 32).toArray⟩⟩then some (⟨((aW (l.take 4):Nat):Int),r,⟨((l.drop 4).take 32).toArray⟩,⟨((l.drop 36).take 32).toArray⟩⟩,left)else none
 |none=>none
theorem m8 {l s:List UInt8} {x:aH} (h:cG l=some (x,s)):l=fW x++s∧bX x=true:=by
 unfold cG at h
 split at h
 ·cases h
 ·next hl=>
  cases hr:bM (l.drop 68)with
  |none=>rw[hr]at h;cases h
  |some p=>
   obtain⟨r,left⟩:=p
   rw[hr]at h
   simp only at h
   split at h
   ·next hok=>
    injection h with h
    injection h with h1 h2
    subst h1 h2
    refine⟨?_,hok⟩
    have e1:=(iL hr).1
    unfold fW
    simp only[Int.toNat_natCast]
    rw[dC 4 _ (by rw[List.length_take];omega),List.append_assoc,←e1]
    have e2:l.drop 36=(l.drop 4).drop 32:=by rw[List.drop_drop]
    have e3:l.drop 68=(l.drop 36).drop 32:=by rw[List.drop_drop]
    rw[List.append_assoc,List.append_assoc,e3,List.take_append_drop,e2,List.take_append_drop,List.take_append_drop]
   ·cases h
theorem wT {x:aH} (h:bX x=true) (s:List UInt8):cG (fW x++s)=some (x,s):=by
 have hr:=(jC h).1
 have h':=h
 obtain⟨seq,r,was,tag⟩:=x
 simp only[bX,Bool.and_eq_true,decide_eq_true_eq]at h'
 have ew:was.data.toList.length=32:=by show was.size=32;omega
 have et:tag.data.toList.length=32:=by show tag.size=32;omega
 have e0:fW ⟨seq,r,was,tag⟩++s=beBytes 4 seq.toNat++(was.data.toList++(tag.data.toList++(cz r++s))):=by unfold fW;simp
 have e1:(beBytes 4 seq.toNat++(was.data.toList++(tag.data.toList++(cz r++s)))).drop 4=was.data.toList++(tag.data.toList++(cz r++s)):=m0 _ _ _
 have e2:(beBytes 4 seq.toNat++(was.data.toList++(tag.data.toList++(cz r++s)))).drop 36=tag.data.toList++(cz r++s):=by
  rw[show(36:Nat)=4+32 from rfl,←List.drop_drop,e1,List.drop_append_of_le_length (by omega),List.drop_of_length_le (by omega),List.nil_append]
 have e3:(beBytes 4 seq.toNat++(was.data.toList++(tag.data.toList++(cz r++s)))).drop 68=cz r++s:=by
  rw[show(68:Nat)=36+32 from rfl,←List.drop_drop,e2,List.drop_append_of_le_length (by omega),List.drop_of_length_le (by omega),List.nil_append]
 rw[e0]
 unfold cG
 rw[if_neg (by simp[beBytes_length];omega),e3,oJ hr]
 simp only
 rw[e1,e2,mZ,ei 4 _ (by omega),List.take_append_of_le_length (by omega),List.take_of_length_le (by omega),List.take_append_of_le_length (by omega),List.take_of_length_le (by omega)]
 have e4:(⟨((seq.toNat:Nat):Int),r,⟨was.data.toList.toArray⟩,⟨tag.data.toList.toArray⟩⟩:aH)=⟨seq,r,was,tag⟩:=by
  rw[show((seq.toNat:Nat):Int)=seq by omega]
 rw[e4,if_pos h]
structure aN where
 lba:Int
 hash:ByteArray
deriving instance DecidableEq for aN
def aN.cells (x:aN):List Value:=[.int .i64 x.lba, .string x.hash]
def aN.v (x:aN):Value:= .agg #[.int .i64 x.lba, .string x.hash]
def aN.zero:aN:=⟨0,⟨#[]⟩⟩
def dp (x:aN):Bool:=decide (0≤x.lba)&&decide (x.lba<4096)&&decide ((x.hash.size:Int)=32)
def cI (x:aN):Bool:=decide (x=aN.zero)||dp x
def bz (n:Int):Bool:=decide (0≤n)&&decide (n≤4294967295)
def dX (e l:Int):Bool:=bz e&&(decide (0≤l)&&decide (l≤4095))
def dl (l:List ByteArray):Bool:=l.all (fun s=>decide (s.size=32))
structure ar where
 askE:Int
 askL:Int
 gone:Bool
 found:Bool
 at_:Int
 here:aN
 ahead:aN
 up:List ByteArray
 left:List ByteArray
 slot:Int
 cipher:ByteArray
deriving instance DecidableEq for ar
def ar.cells (t:ar) (u l:Value):List Value:=[.int .i64 t.askE, .int .i64 t.askL, .bool t.gone, .bool t.found, .int .i64 t.at_, .int .i64 t.here.lba, .string t.here.hash, .int .i64 t.ahead.lba, .string t.ahead.hash,u,l, .int .i64 t.slot, .string t.cipher]
def ar.v (t:ar) (u l:Value):Value:= .agg #[.int .i64 t.askE, .int .i64 t.askL, .bool t.gone, .bool t.found, .int .i64 t.at_, .int .i64 t.here.lba, .string t.here.hash, .int .i64 t.ahead.lba, .string t.ahead.hash,u,l, .int .i64 t.slot, .string t.cipher]
def ar.zero:ar:=⟨0,0,false,false,0,aN.zero,aN.zero,[],[],0,⟨#[]⟩⟩
def mn (t:ar):Bool:=decide (t.slot=0)&&decide (t.cipher=⟨#[]⟩)&& !t.found&&decide (t.at_=0)&&decide (t.here=aN.zero)&&decide (t.ahead=aN.zero)&&decide (t.up.length+t.left.length=0)
def dd (t:ar):Bool:=
 if t.gone then dX t.askE t.askL&&mn t
 else dX t.askE t.askL&&bz t.slot&&decide ((t.cipher.size:Int)≤4000)&&(decide (0≤t.at_)&&decide (t.at_≤4096))&&cI t.here&&cI t.ahead&&(decide (t.up.length≤12)&&decide (t.left.length≤12)&&dl t.up&&dl t.left)
def ax.zero:ax:=⟨Rec.zero,⟨#[]⟩⟩
structure aa where
 kind:Int
 epoch:Int
 seq:Int
 nonce:ByteArray
 tag:ByteArray
 last:ByteArray
 askE:Int
 askL:Int
 sld:ax
 told:ar
 rcp:aH
deriving instance DecidableEq for aa
def aa.zero:aa:=⟨0,0,0,⟨#[]⟩,⟨#[]⟩,⟨#[]⟩,0,0,ax.zero,ar.zero,aH.zero⟩
def aa.cells (m:aa) (u l:Value):List Value:=
 [.int .i64 m.kind, .int .i64 m.epoch, .int .i64 m.seq, .string m.nonce, .string m.tag, .string m.last, .int .i64 m.askE, .int .i64 m.askL,
  .int .i64 m.sld.r.kind, .int .i64 m.sld.r.epoch, .int .i64 m.sld.r.time, .int .i64 m.sld.r.count, .int .i64 m.sld.r.target, .int .i64 m.sld.r.till, .string m.sld.r.root, .string m.sld.r.name, .string m.sld.tag,
  .int .i64 m.told.askE, .int .i64 m.told.askL, .bool m.told.gone, .bool m.told.found, .int .i64 m.told.at_, .int .i64 m.told.here.lba, .string m.told.here.hash, .int .i64 m.told.ahead.lba, .string m.told.ahead.hash,u,l, .int .i64 m.told.slot, .string m.told.cipher,
  .int .i64 m.rcp.seq, .int .i64 m.rcp.r.kind, .int .i64 m.rcp.r.epoch, .int .i64 m.rcp.r.time, .int .i64 m.rcp.r.count, .int .i64 m.rcp.r.target, .int .i64 m.rcp.r.till, .string m.rcp.r.root, .string m.rcp.r.name, .string m.rcp.was, .string m.rcp.tag]
def aa.v (m:aa) (u l:Value):Value:= .agg (m.cells u l).toArray
def aF (m:aa):Bool:=
 if m.kind=1 then true
 else if m.kind=2∨m.kind=3 then bz m.epoch
 else if m.kind=4 then bz m.epoch&&(decide (0≤m.seq)&&decide (m.seq≤4096))&&decide (m.last.size=32)
 else if m.kind=5 then decide (0≤m.seq)&&decide (m.seq≤4095)
 else if m.kind=6 then(decide (0≤m.seq)&&decide (m.seq≤4095))&&aE m.sld.r&&decide (m.sld.tag.size=32)
 else if m.kind=7 then dX m.askE m.askL
 else if m.kind=8 then dd m.told
 else if m.kind=10 then bX m.rcp
 else false
def aJ (m:aa):aa:=
 {m with
  epoch:=if m.kind=2∨m.kind=3∨m.kind=4 then 0 else m.epoch
  seq:=if m.kind=4∨m.kind=5∨m.kind=6 then 0 else m.seq
  last:=if m.kind=4 then⟨#[]⟩else m.last
  sld:=if m.kind=6 then ax.zero else m.sld
  askE:=if m.kind=7 then 0 else m.askE
  askL:=if m.kind=7 then 0 else m.askL
  told:=if m.kind=8 then ar.zero else m.told
  rcp:=if m.kind=10 then aH.zero else m.rcp}
def al (k:Int):Bool:=decide (k=3)||decide (k=4)
def dF (m:aa):Bool:=decide (m.told=ar.zero)&&decide (m.epoch=0)&&decide (m.seq=0)&&(decide (m.kind≠10)||decide (m.nonce=⟨#[]⟩))&&(al m.kind||decide (m.tag=⟨#[]⟩))&&decide (m.last=⟨#[]⟩)&&(decide (m.askE=0)&&decide (m.askL=0))&&decide (m.sld=ax.zero)&&decide (m.rcp=aH.zero)
def aM (m:aa):Bool:=aF m&&((decide (m.kind=10)||decide (m.nonce.size=32))&&(!al m.kind||decide (m.tag.size=32)))&&dF (aJ m)
theorem gY {x:aH} (h:bX x=true):(fW x).length≤200:=by
 have hr:=jC h
 simp only[bX,Bool.and_eq_true,decide_eq_true_eq]at h
 unfold fW
 rw[List.length_append,List.length_append,List.length_append,beBytes_length]
 have h1:=cP hr.1
 have e1:x.was.data.toList.length=x.was.size:=rfl
 have e2:x.tag.data.toList.length=x.tag.size:=rfl
 omega
def jQ (b:Bool):List UInt8:=beBytes 1 (if b then 1 else 0)
def kN (x:aN):List UInt8:=if x=aN.zero then jQ false else jQ true++beBytes 2 x.lba.toNat++x.hash.data.toList
def jR (l:List ByteArray):List UInt8:=beBytes 1 l.length++(l.map (·.data.toList)).flatten
def js (e l:Int):List UInt8:=beBytes 4 e.toNat++beBytes 2 l.toNat
def jS (t:ar):List UInt8:=
 js t.askE t.askL++jQ t.gone++
 (if t.gone then[]else beBytes 4 t.slot.toNat++bT t.cipher.data.toList++jQ t.found++beBytes 4 t.at_.toNat++kN t.here++kN t.ahead++jR t.up++jR t.left)
def dQ (m:aa):List UInt8:=
 if m.kind=2∨m.kind=3 then beBytes 4 m.epoch.toNat
 else if m.kind=4 then beBytes 4 m.epoch.toNat++beBytes 4 m.seq.toNat++m.last.data.toList
 else if m.kind=5 then beBytes 4 m.seq.toNat
 else if m.kind=6 then beBytes 4 m.seq.toNat++cz m.sld.r++m.sld.tag.data.toList
 else if m.kind=7 then js m.askE m.askL
 else if m.kind=8 then jS m.told
 else if m.kind=10 then fW m.rcp
 else[]
def eU (m:aa):List UInt8:=beBytes 1 m.kind.toNat++m.nonce.data.toList++dQ m
def dj (m:aa):List UInt8:=eU m++m.tag.data.toList
open Go.RowKit Go.Maps Go.WideMaps
theorem jD:Keyed Tryz.prog 3:=int_keyed Tryz.underlying3
theorem A0:Keyed Tryz.prog 9:=string_keyed Tryz.underlying9
theorem A1 {v:Value} {g:Bool} {ps:List MemPlace} (h:plainElem (H:=Unit) Tryz.prog 4 v=some (.lit (.bool g),ps)):v= .bool g:=by
 have hu:Tryz.prog.underlying 4=some .bool:=Tryz.underlying4
 unfold plainElem at h
 rw[hu]at h
 cases v<;>simp at h
 rw[h.1]
theorem DR {w:World} {m n:Nat} {G:DataW Unit} {e:Int} {g:Bool} (h:w.ownsMap Tryz.prog 3 (plainElem Tryz.prog 4) m n G) (h0:0≤e) (h1:e≤4294967295) (hg:G.atKey (.int .i64 e) (.lit (.bool false))= .lit (.bool g)):
  (Instr.lookup 120 (.map (some m)) (.int .i64 e) false).run Tryz.prog w= .ok (.bool g) w:=by
 have gd:keyOf Tryz.prog 3 (.int .i64 e)=some (.int .i64 e):=keyOf_int_mk Tryz.underlying3 (WalkArith.wf_i64 (by omega))
 obtain⟨v,ps,hr,hv⟩:=h.lookup jD Tryz.underlying120 (z:= .bool false) (by kernel_rfl) (plainElem_bool Tryz.underlying4 false) gd
 rw[hg]at hv
 rw[hr,A1 hv]
theorem mN (bb c2 m1 m2 m3 n:Nat) (first epoch e:Int) (U L G:DataW Unit) (g:Bool) (w:World) (h:ac w bb (bB c2 first epoch m1 m2 m3) 234) (hm:cd w m1 m2 m3 n U L G) (h0:0≤e) (h1:e≤4294967295) (hg:G.atKey (.int .i64 e) (.lit (.bool false))= .lit (.bool g)):
  Calls Tryz.prog 169 #[.pointer (some ⟨bb,0,none⟩), .int .i64 e] w fun x w'=>x= .returned (.bool g)∧w=w':=by
 have hrun:=DR hm.g h0 h1 hg
 have c5:=h.cell (i:=5) rfl
 have HB:=Lib.hid h
 clear h hm hg
 go_enter Tryz.func169,Tryz.ntmps169
 go_wp2_with fail
 refine(gP bb c2 first epoch m1 m2 m3 _ HB.out).mono ?_
 rintro e w1 ⟨rfl,rfl⟩
 go_wp2_with fail
 go_ret
 exact⟨rfl,rfl⟩
theorem qT (cb:Nat) (now t:Int) (w:World) (h:ac w cb [.bool true, .int .i64 now] 231) (h0:0≤t) (h1:t≤1099511627776) (h2:now≤t):
  Calls Tryz.prog 114 #[.pointer (some ⟨cb,0,none⟩), .int .i64 t] w fun e w'=>(e= .returned (.int .i64 0)∧ac w' cb [.bool true, .int .i64 t] 231)∧ab [cb] w w':=by
 have hmf:∀(fn:Fn) (first cap:Array Value) (w:World),(Instr.makeFunc fn first cap).run Tryz.prog w= .ok (.func fn first cap) w:=fun _ _ _ _=>rfl
 have c1:=h.cell (i:=1) rfl
 have f1:=h.free 1
 have HC:=Lib.hid h
 clear h
 go_enter Tryz.func114,Tryz.ntmps114
 go_wp2_with fail
 refine(lq cb now _ HC.out).mono ?_
 rintro e w1 ⟨rfl,rfl⟩
 go_wp2_with fail
 go_ret
 exact⟨⟨rfl,(HC.out.set 1 _).ext rfl⟩,(ab.refl _ _).setCell (.inl (by simp)) 1 _⟩
theorem uo (bb c2 m1 m2 m3 n:Nat) (first epoch:Int) (U L G:DataW Unit) (r:Rec) (w:World) (h:ac w bb (bB c2 first epoch m1 m2 m3) 234) (hm:cd w m1 m2 m3 n U L G) (hk:r.kind=1) (hn:r.name.size≤16):
  Calls Tryz.prog 288 #[.pointer (some ⟨bb,0,none⟩),r.v] w fun x w'=>x= .returned (.int .i64 0)∧Below w.heap.size w w':=by
 have HB:=Lib.hid h
 have HM:=Lib.hid hm
 have HK:=Lib.hid hk
 have HNM:=Lib.hid hn
 clear h hm hk hn
 go_enter Tryz.func288,Tryz.ntmps288
 go_wp2_with (first
  |((with_reducible refine ai 59 (.tmp 1) r.cells (some 3) ?hgd ?ho ?hd ?hx ?_);(case hgd|ho|hd|hx=>rfl);(intro b3 w3 l3 B3 e3 z3))
  |fail)
 have HB1:=Lib.hid (HB.out.below (e3.mono l3) HB.out.lt)
 have HM1:=Lib.hid (HM.out.below (e3.mono l3))
 have q0:w3.cell? ⟨b3,0,none⟩=some (.int .i64 1):=by have:=B3.cell (i:=0) rfl;rw[HK.out]at this;exact this
 have q7:=B3.cell (i:=7) rfl
 have c4:=HB1.out.cell (i:=4) rfl
 obtain⟨v,ps,hrun,hv⟩:=(World.ownsMap.drew HM1.out.l).look_ok A0 Tryz.underlying104 (z:= .int .i64 0) (by kernel_rfl) (plainElem_int Tryz.underlying3 (by decide)) (keyOf_string_mk Tryz.underlying9 (s:=r.name) (by have:=HNM.out;unfold maxLen;omega))
 obtain⟨ok,hok⟩:∃ok,Maps.has L (.string r.name.data.toList)=ok:=⟨_,rfl⟩
 rw[hok]at hrun
 have HBE:=Lib.hid (e3.mono l3)
 clear hv hok B3 e3 z3 l3
 refine ez (by kernel_rfl) (by kernel_rfl) ?_
 repeat still_step
 refine wpStill_nil ?_
 go_wp2_with fail
 go_ret
 exact⟨rfl,HBE.out.drew⟩
theorem A2 (bb c2 m1 m2 m3 n:Nat) (first epoch now:Int) (U L G:DataW Unit) (r:Rec) (w:World) (h:ac w bb (bB c2 first epoch m1 m2 m3) 234) (hc:ac w c2 [.bool true, .int .i64 now] 231) (hm:cd w m1 m2 m3 n U L G) (hk:r.kind=1) (hok:aE r=true) (hep:r.epoch=epoch) (hnow:now≤r.time):
  Calls Tryz.prog 209 #[.pointer (some ⟨bb,0,none⟩),r.v] w fun x w'=>x= .returned (.int .i64 0)∧Below w.heap.size w w':=by
 have hf:=dc hok
 have HB:=Lib.hid h
 have HC:=Lib.hid hc
 have HM:=Lib.hid hm
 have HK:=Lib.hid hk
 have HOK:=Lib.hid hok
 have HEP:=Lib.hid hep
 have HNM:=Lib.hid (show r.name.size≤16 from by omega)
 have HFE:=Lib.hid (show Fits r.epoch from by unfold Fits;omega)
 have hnow':¬r.time<now:=by omega
 clear h hc hm hk hok hep hf hnow
 go_enter Tryz.func209,Tryz.ntmps209
 go_wp2_with (first
  |((with_reducible refine ai 59 (.tmp 1) r.cells (some 3) ?hgd ?ho ?hd ?hx ?_);(case hgd|ho|hd|hx=>rfl);(intro b3 w3 l3 B3 e3 z3))
  |fail)
 have HR3:=Lib.hid B3
 have HBE3:=Lib.hid (e3.mono l3)
 have HB3:=Lib.hid (HB.out.below (e3.mono l3) HB.out.lt)
 have HC3:=Lib.hid (HC.out.below (e3.mono l3) HC.out.lt)
 have HM3:=Lib.hid (HM.out.below (e3.mono l3))
 clear B3 e3 z3 l3
 refine(gP bb c2 first epoch m1 m2 m3 _ HB3.out).mono ?_
 rintro e w' ⟨rfl,rfl⟩
 go_wp2_with (first
  |((with_reducible refine au 59 (.tmp 3) b3 r.cells 59 _ HR3.out Tryz.underlying59 rfl aS ?hgd ?ho ?hx ?_);(case hgd|ho|hx=>rfl))
  |fail)
 refine(gx r _ (by have:=HNM.out;omega) HFE.out).mono ?_
 rintro e w4 ⟨rfl,hb4⟩
 rw[ku HOK.out]
 have HR4:=Lib.hid (HR3.out.below hb4 HR3.out.lt)
 have HB4:=Lib.hid (HB3.out.below hb4 HB3.out.lt)
 have HC4:=Lib.hid (HC3.out.below hb4 HC3.out.lt)
 have HM4:=Lib.hid (HM3.out.below hb4)
 have HBE4:=Lib.hid (HBE3.out.trans (hb4.mono HBE3.out.size))
 clear hb4
 go_upto_region 5 with fail
 refine wp_region_held_drew (S:=fun wx=>wx.cell? ⟨b3,1,none⟩=some (.int .i64 r.epoch)∧wx.cell? ⟨bb,2,none⟩=some (.int .i64 r.epoch)∧wx.cell? ⟨b3,2,none⟩=some (.int .i64 r.time)) (by kernel_rfl) (⟨HR4.out.drew.cell (i:=1) rfl,(by have:=HB4.out.drew.cell (i:=2) rfl;rw[←HEP.out]at this;exact this),HR4.out.drew.cell (i:=2) rfl⟩) (fun hHeld=> ?_)
 refine hp 0 ?_
 refine hp 1 ?_
 refine hp 2 ?_
 refine hp 3 ?_
 refine hp 4 ?_
 refine hp 5 ?_
 refine hp 6 ?_
 refine hp 7 ?_
 refine hp 8 ?_
 refine hp 9 ?_
 refine hp 10 ?_
 refine wpAnyH_ready (rs:=[11]) (by kernel_rfl) (by simp) ?_
 refine AllReadyH.cons rfl (fun K hK=> ?_) AllReadyH.nil
 go_simp
 refine(nR bb c2 first epoch m1 m2 m3 _ HB4.out.drew now HC4.out.drew).mono ?_
 rintro e w' ⟨rfl,rfl⟩
 (try go_wp2_with fail)
 refine hK.out _ _ (⟨HR4.out.drew.cell (i:=1) rfl,(by have:=HB4.out.drew.cell (i:=2) rfl;rw[←HEP.out]at this;exact this),HR4.out.drew.cell (i:=2) rfl⟩) (fun hHeld2=> ?_)
 clear hK K hHeld
 have hHeld:=hHeld2
 clear hHeld2
 (try go_frame)
 refine hp 12 ?_
 refine hp 13 ?_
 refine hp 14 ?_
 refine wpAnyH_done (by kernel_rfl) ?_ _
 clear hHeld
 go_wp2_with (first
  |((with_reducible refine au 59 (.tmp 3) b3 r.cells 59 _ HR4.out.drew Tryz.underlying59 rfl aS ?hgd ?ho ?hx ?_);(case hgd|ho|hx=>rfl))
  |fail)
 refine(uo bb c2 m1 m2 m3 n first epoch U L G r _ HB4.out.drew ⟨HM4.out.u,HM4.out.l,HM4.out.g,HM4.out.n1,HM4.out.n2,HM4.out.n3⟩ HK.out HNM.out).mono ?_
 rintro e w6 ⟨rfl,hb6⟩
 have q0:w6.cell? ⟨b3,0,none⟩=some (.int .i64 1):=by have:=(HR4.out.drew.below hb6 HR4.out.lt).cell (i:=0) rfl;rw[HK.out]at this;exact this
 have HBE6:=Lib.hid (HBE4.out.drew.trans (hb6.mono HBE4.out.size))
 clear hb6
 go_wp2_with fail
 go_ret
 exact⟨rfl,HBE6.out⟩
theorem oK (bb c2 m1 m2 m3 n:Nat) (first epoch now:Int) (U L G:DataW Unit) (r:Rec) (w:World) (h:ac w bb (bB c2 first epoch m1 m2 m3) 234) (hc:ac w c2 [.bool true, .int .i64 now] 231) (hm:cd w m1 m2 m3 n U L G) (hk:r.kind=1) (hok:aE r=true) (hep:r.epoch=epoch) (hnow:now≤r.time) (hne:bb≠c2):
  Calls Tryz.prog 105 #[.pointer (some ⟨bb,0,none⟩),r.v] w fun x w'=>(x= .returned (.int .i64 0)∧ac w' bb (bB c2 first (epoch+1) m1 m2 m3) 234∧ac w' c2 [.bool true, .int .i64 r.time] 231)∧ab [bb,c2] w w':=by
 have hf:=dc hok
 have HB:=Lib.hid h
 have HC:=Lib.hid hc
 have HM:=Lib.hid hm
 have HK:=Lib.hid hk
 have HNE:=Lib.hid hne
 have HC0:=Lib.hid hc.lt
 have HT:=Lib.hid (show 0≤r.time∧r.time≤1099511627776∧now≤r.time from⟨by omega,by omega,hnow⟩)
 have HEP:=Lib.hid (show 0≤epoch∧epoch≤4294967295 from⟨by omega,by omega⟩)
 have HMAY:=Lib.hid (fun(wx:World) (a:ac wx bb (bB c2 first epoch m1 m2 m3) 234) (b:ac wx c2 [.bool true, .int .i64 now] 231) (d:cd wx m1 m2 m3 n U L G)=>A2 bb c2 m1 m2 m3 n first epoch now U L G r wx a b d hk hok hep hnow)
 clear h hc hm hk hok hep hnow hne hf
 go_enter Tryz.func105,Tryz.ntmps105
 go_wp2_with (first
  |((with_reducible refine ai 59 (.tmp 1) r.cells (some 3) ?hgd ?ho ?hd ?hx ?_);(case hgd|ho|hd|hx=>rfl);(intro b3 w3 l3 B3 e3 z3))
  |((with_reducible refine au 59 (.tmp 3) b3 r.cells 59 _ B3 Tryz.underlying59 rfl aS ?hgd ?ho ?hx ?_);(case hgd|ho|hx=>rfl))
  |fail)
 have HR3:=Lib.hid B3
 have HL3:=Lib.hid l3
 have HBE3:=Lib.hid (e3.mono l3)
 have HB3:=Lib.hid (HB.out.below (e3.mono l3) HB.out.lt)
 have HC3:=Lib.hid (HC.out.below (e3.mono l3) HC.out.lt)
 have HM3:=Lib.hid (HM.out.below (e3.mono l3))
 clear B3 e3 z3 l3
 refine(HMAY.out _ HB3.out HC3.out HM3.out).mono ?_
 rintro e w4 ⟨rfl,hb4⟩
 have HR4:=Lib.hid (HR3.out.below hb4 HR3.out.lt)
 have HB4:=Lib.hid (HB3.out.below hb4 HB3.out.lt)
 have HC4:=Lib.hid (HC3.out.below hb4 HC3.out.lt)
 have HBE4:=Lib.hid (HBE3.out.trans (hb4.mono HBE3.out.size))
 clear hb4
 go_upto_region 4 with fail
 refine wp_region_held_drew (S:=fun wx=>wx.cell? ⟨bb,0,none⟩=some (.pointer (some ⟨c2,0,none⟩))∧wx.cell? ⟨b3,2,none⟩=some (.int .i64 r.time)) (by kernel_rfl) (⟨HB4.out.drew.cell (i:=0) rfl,HR4.out.drew.cell (i:=2) rfl⟩) (fun hHeld=> ?_)
 refine hp 0 ?_
 refine hp 1 ?_
 refine hp 2 ?_
 refine hp 3 ?_
 refine hp 4 ?_
 refine hp 5 ?_
 refine wpAnyH_ready (rs:=[6]) (by kernel_rfl) (by simp) ?_
 refine AllReadyH.cons rfl (fun K hK=> ?_) AllReadyH.nil
 go_simp
 refine(qT c2 now r.time _ HC4.out.drew HT.out.1 HT.out.2.1 HT.out.2.2).mono ?_
 rintro e w5 ⟨⟨rfl,hc5⟩,ht5⟩
 have HB5:=Lib.hid (ht5.blk HB4.out.drew (by simp;exact HNE.out))
 have HR5:=Lib.hid (ht5.blk HR4.out.drew (by simp;have:=HL3.out;have:=HC0.out;omega))
 have HC5:=Lib.hid hc5
 have HT5:=Lib.hid ht5
 clear hc5 ht5
 (try go_wp2_with fail)
 refine hK.out _ _ (⟨HB5.out.cell (i:=0) rfl,HR5.out.cell (i:=2) rfl⟩) (fun hHeld2=> ?_)
 clear hK K hHeld
 have hHeld:=hHeld2
 clear hHeld2
 (try go_frame)
 refine wpAnyH_done (by kernel_rfl) ?_ _
 clear hHeld
 have q0:w5.cell? ⟨b3,0,none⟩=some (.int .i64 1):=by have:=HR5.out.cell (i:=0) rfl;rw[HK.out]at this;exact this
 have c2':=HB5.out.cell (i:=2) rfl
 have f2':=HB5.out.free 2
 have he1:=HEP.out.1
 have he2:=HEP.out.2
 go_wp2_with fail
 go_ret
 refine⟨⟨rfl,(HB5.out.set 2 _).ext rfl, ?_⟩, ?_⟩
 ·exact HC5.out.set_other (by show c2≠bb;exact fun e=>HNE.out e.symm) _
 ·have t1:ab [bb,c2] w w4.drew:=(ab.of_below HBE4.out (Nat.le_refl _)).drew
  exact(t1.trans (HT5.out.mono (by simp))).trans ((ab.refl _ _).setCell (.inl (by simp)) 2 _)
structure kP where
 bb:Nat
 c2:Nat
 n1:Nat
 n2:Nat
 n3:Nat
def kP.foot (k:kP):List Nat:=[k.bb,k.c2,k.n1,k.n2,k.n3]
def yD:Option kP→Value
 |none=> .pointer none
 |some k=> .pointer (some ⟨k.bb,0,none⟩)
def lO:Option kP→List Nat
 |none=>[]
 |some k=>k.foot
structure m9 (w:World) (k:kP) (ep now:Int):Prop where
 book:ac w k.bb (bB k.c2 0 ep k.n1 k.n2 k.n3) 234
 clock:ac w k.c2 [.bool true, .int .i64 now] 231
 maps:cd w k.n1 k.n2 k.n3 0 (.map []) (.map []) (.map [])
structure ay where
 root:ByteArray
 cb:Nat
 m1:Nat
 m2:Nat
 nonces:Int
 state:Int
 why:Int
 nonce:ByteArray
 asks:Value
 na:Nat
 epoch:Int
 head:aa
 hu:Value
 hl:Value
 lv:Value
 l:List ax
 bk:Option kP
 bep:Int
 bnow:Int
 verd:Value
 all:Value
def pz (d:ay):List Value:= .int .i64 d.state:: .int .i64 d.why:: .string d.nonce::d.asks:: .int .i64 d.epoch::(d.head.cells d.hu d.hl++[d.lv,yD d.bk,d.verd,d.all])
def ay.cells (d:ay):List Value:= .string d.root:: .int .i64 0:: .pointer (some ⟨d.cb,0,none⟩):: .map (some d.m1):: .map (some d.m2):: .int .i64 d.nonces::pz d
def ay.foot (d:ay) (vb:Nat):List Nat:=vb::(lO d.bk++d.lv.ownBlock.toList)
structure bq (w:World) (vb:Nat) (d:ay):Prop where
 blk:ac w vb d.cells 113
 map:w.ownsMap Tryz.prog 3 (fun _=>(none:Option (DataW Unit×List MemPlace))) d.m2 0 (.map [])
 asks:w.ownsRow 0 55 2 d.asks d.na (List.replicate (d.na*2) (.int .i64 0))
 rows:w.ownsRow 0 61 9 d.lv d.l.length (dP d.l)
 book:∀k,d.bk=some k→m9 w k d.bep d.bnow
theorem gB {w:World} {k:TypeId} {R:Value→Option (DataW Unit×List MemPlace)} {b n:Nat} {D:DataW Unit} {S:List Nat} {T:List TypeId} (h:w.ownsMap Tryz.prog k R b n D) (hS:bZ w S T):b∉S:=kM h hS
theorem m9.turned {w w':World} {k:kP} {ep now:Int} {S:List Nat} {T:List TypeId} (h:m9 w k ep now) (t:ab S w w') (hS:bZ w S T) (h1:234∉T) (h2:231∉T):m9 w' k ep now:=
 ⟨t.blk h.book (h.book.ty.notin hS h1),t.blk h.clock (h.clock.ty.notin hS h2),h.maps.turned t (eX h.maps hS)⟩
theorem m9.lt {w:World} {k:kP} {ep now:Int} (h:m9 w k ep now):∀x,x∈k.foot→x<w.heap.size:=by
 intro x hx
 simp only[kP.foot,List.mem_cons,List.mem_nil_iff,or_false]at hx
 rcases hx with rfl|rfl|rfl|rfl|rfl
 ·exact h.book.lt
 ·exact h.clock.lt
 ·exact h.maps.u.lt
 ·exact h.maps.l.lt
 ·exact h.maps.g.lt
theorem bq.foot_lt {w:World} {vb:Nat} {d:ay} (h:bq w vb d):∀x,x∈d.foot vb→x<w.heap.size:=by
 intro x hx
 rcases List.mem_cons.1 hx with rfl|hx
 ·exact h.blk.lt
 ·rcases List.mem_append.1 hx with hx|hx
  ·cases hb:d.bk with
   |none=>rw[hb]at hx;cases hx
   |some k=>rw[hb]at hx;exact(h.book k hb).lt x hx
  ·exact(h.rows.lt x (by simpa using hx)).2
theorem bq.away {w w':World} {vb:Nat} {d:ay} {S:List Nat} {T:List TypeId} (h:bq w vb d) (t:ab S w w') (hS:bZ w S T) (h0:113∉T) (h1:234∉T) (h2:231∉T) (h3:55∉T) (h4:61∉T):bq w' vb d:=
 ⟨t.blk h.blk (h.blk.ty.notin hS h0),dU h.map t (gB h.map hS),aB h.asks t (fun k hk=>(aV h.asks hk).notin hS h3),aB h.rows t (fun k hk=>(aV h.rows hk).notin hS h4),fun k hk=>(h.book k hk).turned t hS h1 h2⟩
theorem bq.below {w w':World} {vb:Nat} {d:ay} (h:bq w vb d) (hb:Below w.heap.size w w'):bq w' vb d:=
 h.away (ab.of_below (S:=[]) hb (Nat.le_refl _)) (T:=[]) (fun x hx=>by cases hx) (by simp) (by simp) (by simp) (by simp) (by simp)
theorem bq.drew {w:World} {vb:Nat} {d:ay} (h:bq w vb d):bq w.drew vb d:=h.below (Below.refl _ _).drew
structure bW (w w':World) (vb:Nat) (d d':ay):Prop where
 at':bq w' vb d'
 turned:ab (d.foot vb) w w'
 foot:∀x,x∈d'.foot vb→x∈d.foot vb∨w.heap.size≤x
theorem bW.refl {w:World} {vb:Nat} {d:ay} (h:bq w vb d):bW w w vb d d:=⟨h,ab.refl _ _,fun _ hx=> .inl hx⟩
theorem bW.trans {w1 w2 w3:World} {vb:Nat} {d d' d'':ay} (h:bW w1 w2 vb d d') (k:bW w2 w3 vb d' d''):bW w1 w3 vb d d'':=
 ⟨k.at',h.turned.on k.turned h.foot,fun x hx=>(k.foot x hx).elim (fun h1=>h.foot x h1) (fun h1=> .inr (Nat.le_trans h.turned.size h1))⟩
theorem bW.below {w1 w2 w3:World} {vb:Nat} {d d':ay} (h:bW w1 w2 vb d d') (hb:Below w2.heap.size w2 w3):bW w1 w3 vb d d':=
 ⟨h.at'.below hb,h.turned.trans (ab.of_below hb (Nat.le_refl _)),h.foot⟩
theorem bW.ahead {w1 w2 w3:World} {vb:Nat} {d d':ay} (hb:Below w1.heap.size w1 w2) (h:bW w2 w3 vb d d'):bW w1 w3 vb d d':=
 ⟨h.at',(ab.of_below hb (Nat.le_refl _)).trans h.turned,fun x hx=>(h.foot x hx).elim .inl (fun h1=> .inr (Nat.le_trans hb.size h1))⟩
theorem bq.put {w w':World} {vb:Nat} {d d':ay} (h:bq w vb d) (t:ab [vb] w w') (hb:ac w' vb d'.cells 113) (e2:d'.m2=d.m2:=by rfl) (e3:d'.asks=d.asks:=by rfl) (e4:d'.na=d.na:=by rfl) (e5:d'.lv=d.lv:=by rfl) (e6:d'.l=d.l:=by rfl) (e7:d'.bk=d.bk:=by rfl) (e8:d'.bep=d.bep:=by rfl) (e9:d'.bnow=d.bnow:=by rfl):bW w w' vb d d':=by
 have hS:=bZ.one h.blk.ty
 refine⟨⟨hb,by rw[e2];exact dU h.map t (gB h.map hS),by rw[e3,e4];exact aB h.asks t (fun k hk=>(aV h.asks hk).notin hS (by decide)),by rw[e5,e6];exact aB h.rows t (fun k hk=>(aV h.rows hk).notin hS (by decide)),fun k hk=> ?_⟩,t.mono (fun x hx=>by simp at hx;subst hx;simp[ay.foot]),fun x hx=> .inl (by unfold ay.foot at hx ⊢;rw[e5,e7]at hx;exact hx)⟩
 rw[e7]at hk
 rw[e8,e9]
 exact(h.book k hk).turned t hS (by decide) (by decide)
theorem bq.only {w w':World} {vb:Nat} {d d':ay} (h:bq w vb d) (o:bH vb w w') (hb:ac w' vb d'.cells 113) (e2:d'.m2=d.m2:=by rfl) (e3:d'.asks=d.asks:=by rfl) (e4:d'.na=d.na:=by rfl) (e5:d'.lv=d.lv:=by rfl) (e6:d'.l=d.l:=by rfl) (e7:d'.bk=d.bk:=by rfl) (e8:d'.bep=d.bep:=by rfl) (e9:d'.bnow=d.bnow:=by rfl):bW w w' vb d d':=
 h.put (o.turned (by simp)) hb e2 e3 e4 e5 e6 e7 e8 e9
theorem dV (vb:Nat) (d:ay) (w:World) (h:bq w vb d):
  Calls Tryz.prog 39 #[.pointer (some ⟨vb,0,none⟩)] w fun e w'=>e= .returned (.bool true)∧w=w':=by
 have c2:=h.blk.cell (i:=2) rfl
 go_enter Tryz.func39,Tryz.ntmps39
 go_wp2_with fail
 go_ret
 exact⟨rfl,rfl⟩
theorem nf (vb:Nat) (d:ay) (w:World) (h:bq w vb d):
  Calls Tryz.prog 17 #[.pointer (some ⟨vb,0,none⟩)] w fun e w'=>e= .returned (.tuple #[.int .i64 d.state, .int .i64 d.why])∧w'=w.drew:=by
 have HH:=Lib.hid h
 clear h
 go_enter Tryz.func17,Tryz.ntmps17
 go_wp2_with fail
 refine(dV vb d _ HH.out).mono ?_
 rintro e w1 ⟨rfl,rfl⟩
 go_upto_region 3 with fail
 refine hb (fun w'=>w'.cell? ⟨vb,6,none⟩=some (.int .i64 d.state)∧w'.cell? ⟨vb,7,none⟩=some (.int .i64 d.why)) (⟨HH.out.blk.drew.cell (i:=6) rfl,HH.out.blk.drew.cell (i:=7) rfl⟩) fun hHeld=> ?_
 refine hp 0 ?_
 refine hp 1 ?_
 refine hp 2 ?_
 refine hp 3 ?_
 refine hp 4 ?_
 refine hp 5 ?_
 refine hp 6 ?_
 refine hp 7 ?_
 refine hp 8 ?_
 refine hp 9 ?_
 refine hp 10 ?_
 refine hp 11 ?_
 refine hd ?_
 go_wp2_with fail
 go_ret2
 exact⟨rfl,rfl⟩
theorem uq (vb:Nat) (d:ay) (w:World) (h:bq w vb d):
  Calls Tryz.prog 234 #[.pointer (some ⟨vb,0,none⟩)] w fun e w'=>e= .returned (.int .i64 0)∧Below w.heap.size w w':=by
 have HH:=Lib.hid h
 clear h
 go_enter Tryz.func234,Tryz.ntmps234
 go_wp2_with fail
 refine(dV vb d _ HH.out).mono ?_
 rintro e w1 ⟨rfl,rfl⟩
 have c4:=HH.out.blk.cell (i:=4) rfl
 go_wp2_with (first
  |(at_range;refine wpList_range_own _ rfl _ 105 rfl 3 71 jD Tryz.underlying105 _ d.m2 0 (.map []) rfl HH.out.map ?_;intro w2 hr2 hg2 hs2)
  |fail)
 have HR:=Lib.hid hr2
 have HB:=Lib.hid (show Below w.heap.size w w2 from⟨hg2.os,hg2.tape,hg2.output,hg2.size,fun i hi=>hg2.block i hi (by simp)⟩)
 clear hr2 hg2 hs2 c4
 go_frame
 go_loopw [3] (fun vn wr=>vn= .int .i64 0∧wr=w2) (fun _ _=>0)
 case atStart=>exact⟨rfl,rfl⟩
 case round=>
  obtain⟨rfl,rfl⟩:=hrel
  go_wp2_with (first
   |(at_next;refine wpList_next_ranges _ rfl _ rfl 3 jD _ (fun x:Value=>x) (fun x:Value=>x) (fun key kl h=>⟨key,rfl⟩) (fun v y h=>⟨v,rfl⟩) d.m2 w.heap.size 0 (.map []) _ _ rfl HR.out (fun _ _=> ?_) (fun x c kl y w' cnt' h1 h2 h3 _ _ hlt _ _ _=>by cases h3))
   |fail)
  go_ret
  exact⟨rfl,HB.out⟩
theorem pA {w:World} {k:TypeId} {R:Value→Option (DataW Unit×List MemPlace)} {b n:Nat} {D:DataW Unit} {t:TypeId} (h:w.ownsMap Tryz.prog k R b n D) (ht:Ty w b t):False:=by
 obtain⟨_,_,h2⟩:=ht
 obtain⟨es,clock,h1,_⟩:=h
 rw[h1]at h2
 cases h2
theorem aP.notype {w:World} {i:aR} {v:bf} {b:Nat} {t:TypeId} (h:aP w i v) (hb:Ty w b t) (ht:t∉[156,176,269,263,234,231,119,9,160,171,61]):b∉i.foot v.d:=by
 intro hx
 simp only[List.mem_cons,List.not_mem_nil,or_false,not_or]at ht
 obtain⟨t1,t2,t3,t4,t5,t6,t7,t8,t9,t10,t11⟩:=ht
 simp only[aR.foot,List.mem_append,List.mem_cons,List.not_mem_nil,or_false,Option.mem_toList,Option.mem_def]at hx
 rcases hx with(rfl|rfl|rfl|rfl|rfl|rfl|rfl|rfl|rfl|rfl)|hx|hx|hx
 ·exact t1 (hb.eq h.vol.ty)
 ·exact t2 (hb.eq h.jour.ty)
 ·exact t3 (hb.eq h.space.ty)
 ·exact t4 (hb.eq h.index.ty)
 ·exact t5 (hb.eq h.book.ty)
 ·exact t6 (hb.eq h.bclock.ty)
 ·exact t6 (hb.eq h.clock.ty)
 ·exact pA h.maps.u hb
 ·exact pA h.maps.l hb
 ·exact pA h.maps.g hb
 ·obtain⟨t',hm,ht'⟩:=h.disk.tyIn b hx
  have he:=hb.eq ht'
  subst he
  simp only[List.mem_cons,List.not_mem_nil,or_false]at hm
  rcases hm with hm|hm|hm
  ·exact t7 hm
  ·exact t8 hm
  ·exact t9 hm
 ·exact t10 (hb.eq (aV h.vers hx))
 ·exact t11 (hb.eq (aV h.sealed hx))
theorem aP.away {w w':World} {i:aR} {v:bf} {S:List Nat} (h:aP w i v) (t:ab S w w') (hS:∀x,x∈i.foot v.d→x∉S):aP w' i v:=by
 have hm:∀x,x∈[i.vb,i.jb,i.sb,i.xb,i.bb,i.c2,i.cb,i.m1,i.m2,i.m3]→x∉S:=fun x hx=>hS x (by unfold aR.foot;exact List.mem_append_left _ hx)
 exact⟨t.blk h.vol (hm _ (by simp)),t.blk h.jour (hm _ (by simp)),t.blk h.space (hm _ (by simp)),h.disk.turned t (fun x hx=>hS x (by unfold aR.foot;exact List.mem_append_right _ (List.mem_append_left _ hx))),t.blk h.index (hm _ (by simp)),
  aB h.vers t (fun k hk=>hS k (by simp only[aR.foot,List.mem_append,Option.mem_toList,Option.mem_def];exact .inr (.inr (.inl hk)))),aB h.sealed t (fun k hk=>hS k (by simp only[aR.foot,List.mem_append,Option.mem_toList,Option.mem_def];exact .inr (.inr (.inr hk)))),
  t.blk h.book (hm _ (by simp)),t.blk h.bclock (hm _ (by simp)),t.blk h.clock (hm _ (by simp)),h.maps.turned t (by rintro x (rfl|rfl|rfl)<;>exact hm _ (by simp)),h.two,h.rp⟩
theorem cE.away {w w1 w2:World} {i i':aR} {v v':bf} {b:Nat} (h:cE w w1 i v i' v') (t:ab [b] w1 w2) (hb:b∉i'.foot v'.d) (hw:w.heap.size≤b):cE w w2 i v i' v':=
 ⟨h.at'.away t (fun x hx hm=>hb (by simp at hm;subst hm;exact hx)),h.turned.on t (fun x hx=>by simp at hx;subst hx;exact .inr hw),h.foot⟩
structure Calm (d:am) (n m:Nat):Prop where
 up:d.down=false
 left:d.left=0
 len:d.bs.length=n
 hin:∀(j:Nat) p,d.cs[j]?=some p→0≤p.1∧p.1<d.bs.length
 few:d.cs.length≤m
theorem Calm.mono {d:am} {n m m':Nat} (h:Calm d n m) (hm:m≤m'):Calm d n m':=⟨h.up,h.left,h.len,h.hin,Nat.le_trans h.few hm⟩
theorem Calm.put {d:am} {n m:Nat} (h:Calm d n m) {i:Int} (h0:0≤i) (h1:i<n) (cv:Value) (s:ByteArray):Calm {d with cv:=cv,cs:=d.cs++[(i,s)]} n (m+1):=by
 refine⟨h.up,h.left,h.len,fun j p hj=> ?_,by simp only[List.length_append,List.length_cons,List.length_nil];have:=h.few;omega⟩
 simp only at hj ⊢
 by_cases hjl:j<d.cs.length
 ·rw[List.getElem?_append_left hjl]at hj;exact h.hin j p hj
 ·rw[List.getElem?_append_right (by omega)]at hj
  have:j-d.cs.length=0:=by
   rcases Nat.eq_zero_or_pos (j-d.cs.length)with h2|h2
   ·exact h2
   ·rw[List.getElem?_eq_none (by simp;omega)]at hj;cases hj
  rw[this]at hj
  simp at hj
  subst hj
  exact⟨h0,by simp only;rw[h.len];exact h1⟩
theorem Calm.flushed {d:am} {n m:Nat} (h:Calm d n m):Calm d.flushed n 0:=
 ⟨h.up,h.left,by show(fH d.bs d.cs d.cs.length).length=n;rw[dD];exact h.len,fun j p hj=>by simp[am.flushed]at hj,Nat.le_refl _⟩
end Go.Proofs.YtngiibgdgenidaaGreat
