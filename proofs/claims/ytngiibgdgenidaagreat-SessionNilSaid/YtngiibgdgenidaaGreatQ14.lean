/- A volume's state, and what becomes of it where some blocks turn (chapter 26). Walks of receipt.may, Make, Of and the documents' Few, Right, Make, Last (chapters 19, 20, 21). Walks of receipt.Make and the documents' Make (chapter 21). Walks of receipt.Of, Forge, All (chapter 21). -/
import Derived.Test.YtngiibgdgenidaaGreatQ13
import Derived.Deep.RegionHeld3
import Derived.Deep.RegionWith
import Derived.Deep.MidRow
import Derived.Laws.ResultCell
import Derived.Deep.QuietTactic
import Derived.BigQuiet
import Derived.Test.YtngiibgdgenidaaGreatQ2
import Derived.Deep.DeepAppendWide
import Derived.OneCell
import Derived.Test.YtngiibgdgenidaaGreatQ6
set_option linter.unusedSimpArgs false
set_option linter.unusedVariables false
set_option maxRecDepth 100000
set_option maxHeartbeats 4000000
namespace Go.Proofs.YtngiibgdgenidaaGreat
open Go Go.RowKit Go.Maps Go.WideMaps
def Ty (w:World) (b:Nat) (t:TypeId):Prop:=∃cs fz,w.heap[b]?=some (.cells cs t fz)
def bZ (w:World) (S:List Nat) (T:List TypeId):Prop:=∀x,x∈S→∃t,t∈T∧Ty w x t
theorem ac.ty {w:World} {b:Nat} {cs:List Value} {t:TypeId} (h:ac w b cs t):Ty w b t:=⟨_,_,h⟩
theorem aV {w:World} {base size n:Nat} {e:TypeId} {v:Value} {xs:List Value} (h:w.ownsRow base e size v n xs) {k:Nat} (hk:v.ownBlock=some k):Ty w k e:=by
 rcases h.2 with⟨rfl,_⟩|⟨g,cap,cur,rfl,_,hg,_⟩
 ·cases hk
 ·injection hk with hk;subst hk;exact⟨_,_,hg⟩
theorem Ty.eq {w:World} {b:Nat} {t t':TypeId} (h:Ty w b t) (k:Ty w b t'):t=t':=by
 obtain⟨_,_,h⟩:=h
 obtain⟨_,_,k⟩:=k
 rw[h]at k
 injection k with k
 injection k
theorem Ty.notin {w:World} {b:Nat} {t:TypeId} {S:List Nat} {T:List TypeId} (h:Ty w b t) (hS:bZ w S T) (ht:t∉T):b∉S:=fun hm=>by
 obtain⟨t',h1,h2⟩:=hS b hm
 exact ht (h.eq h2 ▸ h1)
theorem kM {w:World} {k:TypeId} {R:Value→Option (DataW Unit×List MemPlace)} {b n:Nat} {D:DataW Unit} {S:List Nat} {T:List TypeId} (h:w.ownsMap Tryz.prog k R b n D) (hS:bZ w S T):b∉S:=fun hm=>by
 obtain⟨t',_,_,_,h2⟩:=hS b hm
 obtain⟨es,clock,h1,_⟩:=h
 rw[h1]at h2
 cases h2
theorem eX {w:World} {m1 m2 m3 n:Nat} {U L G:DataW Unit} {S:List Nat} {T:List TypeId} (h:cd w m1 m2 m3 n U L G) (hS:bZ w S T):∀x,x=m1∨x=m2∨x=m3→x∉S:=by
 rintro x (rfl|rfl|rfl)
 ·exact kM h.u hS
 ·exact kM h.l hS
 ·exact kM h.g hS
theorem az.tyIn {w:World} {db:Nat} {d:am} (h:az w db d):bZ w (d.foot db) [119,9,160]:=by
 intro x hx
 simp only[am.foot,List.mem_cons,List.mem_append,Option.mem_toList,Option.mem_def]at hx
 rcases hx with rfl|hx|hx
 ·exact⟨_,by simp,h.blk.ty⟩
 ·exact⟨_,by simp,aV h.rb hx⟩
 ·exact⟨_,by simp,aV h.rc hx⟩
theorem bZ.one {w:World} {b:Nat} {t:TypeId} (h:Ty w b t):bZ w [b] [t]:=by intro x hx;simp at hx;subst hx;exact⟨t,by simp,h⟩
theorem bZ.cons {w:World} {b:Nat} {t:TypeId} {S:List Nat} {T:List TypeId} (h:Ty w b t) (k:bZ w S T):bZ w (b::S) (t::T):=by
 intro x hx
 rcases List.mem_cons.1 hx with rfl|hx
 ·exact⟨t,by simp,h⟩
 ·obtain⟨t',h1,h2⟩:=k x hx
  exact⟨t',List.mem_cons_of_mem _ h1,h2⟩
theorem bZ.own {w:World} {base size n:Nat} {e:TypeId} {v:Value} {xs:List Value} (h:w.ownsRow base e size v n xs):bZ w v.ownBlock.toList [e]:=by
 intro x hx
 exact⟨e,by simp,aV h (by simpa using hx)⟩
theorem jP {w:World} {db:Nat} {d:am} {S:List Nat} {T:List TypeId} (h:az w db d) (hS:bZ w S T) (ht:∀t,t∈T→t≠119∧t≠9∧t≠160):∀x,x∈d.foot db→x∉S:=by
 intro x hx hm
 obtain⟨t,h1,h2⟩:=hS x hm
 obtain⟨t',h3,h4⟩:=h.tyIn x hx
 obtain rfl:=h2.eq h4
 have:=ht t h1
 simp at h3
 rcases h3 with h3|h3|h3
 ·exact this.1 h3
 ·exact this.2.1 h3
 ·exact this.2.2 h3
structure bf where
 key:ByteArray
 data:ByteArray
 last:aD
 used:Int
 vers:List aO
 sealed:List ax
 first:Int
 epoch:Int
 now:Int
 clock:Int
 U:DataW Unit
 L:DataW Unit
 G:DataW Unit
 n:Nat
 d:am
structure aR where
 vb:Nat
 jb:Nat
 sb:Nat
 db:Nat
 xb:Nat
 bb:Nat
 c2:Nat
 cb:Nat
 m1:Nat
 m2:Nat
 m3:Nat
 xv:Value
 sv:Value
 rv:Value
def ul (i:aR) (key data:ByteArray):List Value:=[.pointer (some ⟨i.jb,0,none⟩), .string key, .string data, .pointer (some ⟨i.xb,0,none⟩),i.sv, .pointer (some ⟨i.bb,0,none⟩), .pointer (some ⟨i.cb,0,none⟩),i.rv]
structure aP (w:World) (i:aR) (v:bf):Prop where
 vol:ac w i.vb (ul i v.key v.data) 156
 jour:ac w i.jb (bK (.pointer (some ⟨i.sb,0,none⟩)) i.db v.last) 176
 space:ac w i.sb (ct v.last.geo v.used) 269
 disk:az w i.db v.d
 index:ac w i.xb [.bool true,i.xv] 263
 vers:w.ownsRow 0 171 3 i.xv v.vers.length (cO v.vers)
 sealed:w.ownsRow 0 61 9 i.sv v.sealed.length (dP v.sealed)
 book:ac w i.bb (bB i.c2 v.first v.epoch i.m1 i.m2 i.m3) 234
 bclock:ac w i.c2 [.bool true, .int .i64 v.now] 231
 clock:ac w i.cb [.bool true, .int .i64 v.clock] 231
 maps:cd w i.m1 i.m2 i.m3 v.n v.U v.L v.G
 two:i.c2≠i.cb
 rp:∃p,i.rv= .pointer p
theorem aP.below {w w':World} {i:aR} {v:bf} (h:aP w i v) (hb:Below w.heap.size w w'):aP w' i v:=by
 have t:ab [] w w':=ab.of_below hb (Nat.le_refl _)
 have hS:bZ w [] []:=fun x hx=>by cases hx
 exact⟨t.blk h.vol (h.vol.ty.notin hS (by decide)),t.blk h.jour (h.jour.ty.notin hS (by decide)),t.blk h.space (h.space.ty.notin hS (by decide)),h.disk.turned t (jP h.disk hS (by decide)),t.blk h.index (h.index.ty.notin hS (by decide)),aB h.vers t (fun k hk=>(aV h.vers hk).notin hS (by decide)),aB h.sealed t (fun k hk=>(aV h.sealed hk).notin hS (by decide)),t.blk h.book (h.book.ty.notin hS (by decide)),t.blk h.bclock (h.bclock.ty.notin hS (by decide)),t.blk h.clock (h.clock.ty.notin hS (by decide)),h.maps.turned t (eX h.maps hS),h.two,h.rp⟩
def aR.foot (i:aR) (d:am):List Nat:=[i.vb,i.jb,i.sb,i.xb,i.bb,i.c2,i.cb,i.m1,i.m2,i.m3]++(d.foot i.db++(i.xv.ownBlock.toList++i.sv.ownBlock.toList))
structure cE (w w':World) (i:aR) (v:bf) (i':aR) (v':bf):Prop where
 at':aP w' i' v'
 turned:ab (i.foot v.d) w w'
 foot:∀x,x∈i'.foot v'.d→x∈i.foot v.d∨w.heap.size≤x
theorem cE.refl {w:World} {i:aR} {v:bf} (h:aP w i v):cE w w i v i v:=⟨h,ab.refl _ _,fun _ hx=> .inl hx⟩
theorem cE.trans {w1 w2 w3:World} {i i' i'':aR} {v v' v'':bf} (h:cE w1 w2 i v i' v') (k:cE w2 w3 i' v' i'' v''):cE w1 w3 i v i'' v'':=
 ⟨k.at',h.turned.on k.turned h.foot,fun x hx=>(k.foot x hx).elim (fun h1=>h.foot x h1) (fun h1=> .inr (Nat.le_trans h.turned.size h1))⟩
theorem cE.below {w1 w2 w3:World} {i i':aR} {v v':bf} (h:cE w1 w2 i v i' v') (hb:Below w2.heap.size w2 w3):cE w1 w3 i v i' v':=
 ⟨h.at'.below hb,h.turned.trans (ab.of_below hb (Nat.le_refl _)),h.foot⟩
theorem cE.ahead {w1 w2 w3:World} {i i':aR} {v v':bf} (hb:Below w1.heap.size w1 w2) (h:cE w2 w3 i v i' v'):cE w1 w3 i v i' v':=
 ⟨h.at',(ab.of_below hb (Nat.le_refl _)).trans h.turned,fun x hx=>(h.foot x hx).elim .inl (fun h1=> .inr (Nat.le_trans hb.size h1))⟩
theorem aP.disk_to {w w':World} {i:aR} {v:bf} {d':am} (h:aP w i v) (ht:bg w w' i.db v.d d'):cE w w' i v i {v with d:=d'}:=by
 have t:=ht.turned
 have hS:=h.disk.tyIn
 refine⟨⟨t.blk h.vol (h.vol.ty.notin hS (by decide)),t.blk h.jour (h.jour.ty.notin hS (by decide)),t.blk h.space (h.space.ty.notin hS (by decide)),ht.at',t.blk h.index (h.index.ty.notin hS (by decide)),aB h.vers t (fun k hk=>(aV h.vers hk).notin hS (by decide)),aB h.sealed t (fun k hk=>(aV h.sealed hk).notin hS (by decide)),t.blk h.book (h.book.ty.notin hS (by decide)),t.blk h.bclock (h.bclock.ty.notin hS (by decide)),t.blk h.clock (h.clock.ty.notin hS (by decide)),h.maps.turned t (eX h.maps hS),h.two,h.rp⟩,t.mono (fun x hx=>by simp only[aR.foot,List.mem_append];exact .inr (.inl hx)),fun x hx=> ?_⟩
 simp only[aR.foot,List.mem_append]at hx ⊢
 rcases hx with hx|hx|hx
 ·exact .inl (.inl hx)
 ·exact(ht.foot x hx).imp (fun h=> .inr (.inl h)) id
 ·exact .inl (.inr (.inr hx))
theorem aP.jdisk {w w':World} {i:aR} {v:bf} {d':am} {s:aD} (h:aP w i v) (t:ab (i.jb::v.d.foot i.db) w w') (hg:s.geo=v.last.geo) (hd:az w' i.db d') (hj:ac w' i.jb (bK (.pointer (some ⟨i.sb,0,none⟩)) i.db s) 176) (hf:∀x,x∈d'.foot i.db→x∈v.d.foot i.db∨w.heap.size≤x):cE w w' i v i {v with d:=d',last:=s}:=by
 have hS:=bZ.cons h.jour.ty h.disk.tyIn
 have hsp:ac w' i.sb (ct s.geo v.used) 269:=by rw[hg];exact t.blk h.space (h.space.ty.notin hS (by decide))
 refine⟨⟨t.blk h.vol (h.vol.ty.notin hS (by decide)),hj,hsp,hd,t.blk h.index (h.index.ty.notin hS (by decide)),aB h.vers t (fun k hk=>(aV h.vers hk).notin hS (by decide)),aB h.sealed t (fun k hk=>(aV h.sealed hk).notin hS (by decide)),t.blk h.book (h.book.ty.notin hS (by decide)),t.blk h.bclock (h.bclock.ty.notin hS (by decide)),t.blk h.clock (h.clock.ty.notin hS (by decide)),h.maps.turned t (eX h.maps hS),h.two,h.rp⟩,t.mono (fun x hx=> ?_),fun x hx=> ?_⟩
 ·simp only[aR.foot,List.mem_append]
  rcases List.mem_cons.1 hx with rfl|hx
  ·exact .inl (by simp)
  ·exact .inr (.inl hx)
 ·simp only[aR.foot,List.mem_append]at hx ⊢
  rcases hx with hx|hx|hx
  ·exact .inl (.inl hx)
  ·exact(hf x hx).imp (fun h=> .inr (.inl h)) id
  ·exact .inl (.inr (.inr hx))
theorem aP.take {w w':World} {i:aR} {v:bf} {n:Int} (h:aP w i v) (t:ab [i.sb] w w') (hs:ac w' i.sb (ct v.last.geo n) 269):cE w w' i v i {v with used:=n}:=by
 have hS:=bZ.one h.space.ty
 exact⟨⟨t.blk h.vol (h.vol.ty.notin hS (by decide)),t.blk h.jour (h.jour.ty.notin hS (by decide)),hs,h.disk.turned t (jP h.disk hS (by decide)),t.blk h.index (h.index.ty.notin hS (by decide)),aB h.vers t (fun k hk=>(aV h.vers hk).notin hS (by decide)),aB h.sealed t (fun k hk=>(aV h.sealed hk).notin hS (by decide)),t.blk h.book (h.book.ty.notin hS (by decide)),t.blk h.bclock (h.bclock.ty.notin hS (by decide)),t.blk h.clock (h.clock.ty.notin hS (by decide)),h.maps.turned t (eX h.maps hS),h.two,h.rp⟩,t.mono (fun x hx=>by simp at hx;subst hx;simp[aR.foot]),fun x hx=> .inl hx⟩
theorem aP.closed {w w':World} {i:aR} {v:bf} {ep now:Int} (h:aP w i v) (t:ab [i.bb,i.c2] w w') (hb:ac w' i.bb (bB i.c2 v.first ep i.m1 i.m2 i.m3) 234) (hc:ac w' i.c2 [.bool true, .int .i64 now] 231):cE w w' i v i {v with epoch:=ep,now:=now}:=by
 have hS:=bZ.cons h.book.ty (bZ.one h.bclock.ty)
 have hcl:ac w' i.cb [.bool true, .int .i64 v.clock] 231:=t.blk h.clock (by
  intro hm
  simp at hm
  rcases hm with hm|hm
  ·exact absurd (show 231=234 from(hm ▸ h.clock.ty).eq h.book.ty) (by decide)
  ·exact h.two hm.symm)
 exact⟨⟨t.blk h.vol (h.vol.ty.notin hS (by decide)),t.blk h.jour (h.jour.ty.notin hS (by decide)),t.blk h.space (h.space.ty.notin hS (by decide)),h.disk.turned t (jP h.disk hS (by decide)),t.blk h.index (h.index.ty.notin hS (by decide)),aB h.vers t (fun k hk=>(aV h.vers hk).notin hS (by decide)),aB h.sealed t (fun k hk=>(aV h.sealed hk).notin hS (by decide)),hb,hc,hcl,h.maps.turned t (eX h.maps hS),h.two,h.rp⟩,t.mono (fun x hx=>by simp at hx;rcases hx with rfl|rfl<;>simp[aR.foot]),fun x hx=> .inl hx⟩
theorem aP.own {w w':World} {i:aR} {v:bf} {key:ByteArray} {sv:Value} {l:List ax} (h:aP w i v) (t:ab (i.vb::i.sv.ownBlock.toList) w w') (hv:ac w' i.vb (ul {i with sv:=sv} key v.data) 156) (hr:w'.ownsRow 0 61 9 sv l.length (dP l)) (hn:∀k,sv.ownBlock=some k→i.sv.ownBlock=some k∨w.heap.size≤k):cE w w' i v {i with sv:=sv} {v with key:=key,sealed:=l}:=by
 have hS:=bZ.cons h.vol.ty (bZ.own h.sealed)
 refine⟨⟨hv,t.blk h.jour (h.jour.ty.notin hS (by decide)),t.blk h.space (h.space.ty.notin hS (by decide)),h.disk.turned t (jP h.disk hS (by decide)),t.blk h.index (h.index.ty.notin hS (by decide)),aB h.vers t (fun k hk=>(aV h.vers hk).notin hS (by decide)),hr,t.blk h.book (h.book.ty.notin hS (by decide)),t.blk h.bclock (h.bclock.ty.notin hS (by decide)),t.blk h.clock (h.clock.ty.notin hS (by decide)),h.maps.turned t (eX h.maps hS),h.two,h.rp⟩,t.mono (fun x hx=> ?_),fun x hx=> ?_⟩
 ·rcases List.mem_cons.1 hx with rfl|hx
  ·simp[aR.foot]
  ·simp only[aR.foot,List.mem_append];exact .inr (.inr (.inr hx))
 ·simp only[aR.foot,List.mem_append]at hx ⊢
  rcases hx with hx|hx|hx|hx
  ·exact .inl (.inl hx)
  ·exact .inl (.inr (.inl hx))
  ·exact .inl (.inr (.inr (.inl hx)))
  ·exact(hn x (by simpa using hx)).imp (fun h=> .inr (.inr (.inr (by simpa using h)))) id
def gQ (key data:ByteArray) (gen clock n lbas first ep:Int) (d:am):bf:=⟨key,data,⟨gen,0,ep,clock,⟨n,lbas,first⟩⟩,0,[],[],first,ep,0,clock, .map [], .map [], .map [],0,d⟩
def iy (vb jb sb db xb bb cb c2 m1 m2 m3:Nat) (ro:Option Addr):aR:=⟨vb,jb,sb,db,xb,bb,c2,cb,m1,m2,m3, .slice none 0 0, .slice none 0 0, .pointer ro⟩
theorem eW.at {w:World} {lo vb jb sb db xb bb cb c2 m1 m2 m3:Nat} {ro:Option Addr} {key data:ByteArray} {gen clock n lbas first ep:Int} {d:am} (h:eW w lo vb jb sb db xb bb cb c2 m1 m2 m3 ro key data gen clock n lbas first ep d):aP w (iy vb jb sb db xb bb cb c2 m1 m2 m3 ro) (gQ key data gen clock n lbas first ep d):=
 ⟨h.vol,h.jour,h.space,h.disk,h.index,World.ownsRow_nil w 0 171 3,World.ownsRow_nil w 0 61 9,h.book,h.bclock,h.clock,h.maps,by show c2≠cb;have:=h.o;omega,ro,rfl⟩
theorem eW.foot_ge {w:World} {lo lo' vb jb sb db xb bb cb c2 m1 m2 m3:Nat} {ro:Option Addr} {key data:ByteArray} {gen clock n lbas first ep:Int} {d:am} (h:eW w lo vb jb sb db xb bb cb c2 m1 m2 m3 ro key data gen clock n lbas first ep d) (hl:lo'≤lo) (hd:∀x,x∈d.foot db→lo'≤x):∀x,x∈(iy vb jb sb db xb bb cb c2 m1 m2 m3 ro).foot d→lo'≤x:=by
 intro x hx
 have ho:=h.o
 have hm:=h.om
 simp only[aR.foot,iy,Value.ownBlock,List.mem_append,List.mem_cons,List.not_mem_nil,or_false,Option.mem_toList,Option.mem_def]at hx
 rcases hx with(rfl|rfl|rfl|rfl|rfl|rfl|rfl|rfl|rfl|rfl)|hx|hx|hx<;>first|omega|exact hd x hx|cases hx
structure aH where
 seq:Int
 r:Rec
 was:ByteArray
 tag:ByteArray
def aH.cells (x:aH):List Value:=[.int .i64 x.seq, .int .i64 x.r.kind, .int .i64 x.r.epoch, .int .i64 x.r.time, .int .i64 x.r.count, .int .i64 x.r.target, .int .i64 x.r.till, .string x.r.root, .string x.r.name, .string x.was, .string x.tag]
def aH.v (x:aH):Value:= .agg #[.int .i64 x.seq, .int .i64 x.r.kind, .int .i64 x.r.epoch, .int .i64 x.r.time, .int .i64 x.r.count, .int .i64 x.r.target, .int .i64 x.r.till, .string x.r.root, .string x.r.name, .string x.was, .string x.tag]
def aH.zero:aH:=⟨0,Rec.zero,⟨#[]⟩,⟨#[]⟩⟩
def bX (x:aH):Bool:=decide (0≤x.seq)&&decide (x.seq≤4294967295)&&aE x.r&&decide (x.r.kind=1)&&decide ((x.was.size:Int)=32)&&decide ((x.tag.size:Int)=32)
def cT (l:List ax):ByteArray:=match l.getLast? with|none=>⟨(List.replicate 32 (0:UInt8)).toArray⟩|some x=>x.tag
theorem ak.eqB {p:ByteArray} {l:List UInt8} (h:ak p l):p=⟨l.toArray⟩:=by
 have h1:p.data.toList=l:=h
 rw[←h1]
theorem bI {x:aH}:(Tryz.prog.info? 71).map (·.size)=some x.cells.length:=by kernel_rfl
theorem ER {a b:ByteArray} (h:a=b):Ending.returned (.string a)= .returned (.string b):=by rw[h]
structure dE (w:World) (b:Nat) (x:aH):Prop where
 lt:b<w.heap.size
 at_:∀(i:Nat) (u:Value),x.cells[i]?=some u→w.cell? ⟨b,i,none⟩=some u
theorem dE.below {w w':World} {b:Nat} {x:aH} (h:dE w b x) {B:Nat} (hb:Below B w w') (hB:b<B):dE w' b x:=
 ⟨by have:=hb.size;have:=h.lt;omega,fun i u hu=>by rw[hb.cell (by exact hB)];exact h.at_ i u hu⟩
theorem dE.blk {w:World} {b:Nat} {x:aH} {t:TypeId} (h:ac w b x.cells t):dE w b x:=⟨h.lt,fun i u hu=>h.cell hu⟩
theorem dE.cells_ {w:World} {b:Nat} {x:aH} (h:dE w b x):
  w.cell? ⟨b,0,none⟩=some (.int .i64 x.seq)∧w.cell? ⟨b,1,none⟩=some (.int .i64 x.r.kind)∧w.cell? ⟨b,2,none⟩=some (.int .i64 x.r.epoch)∧w.cell? ⟨b,3,none⟩=some (.int .i64 x.r.time)∧w.cell? ⟨b,4,none⟩=some (.int .i64 x.r.count)∧
  w.cell? ⟨b,5,none⟩=some (.int .i64 x.r.target)∧w.cell? ⟨b,6,none⟩=some (.int .i64 x.r.till)∧w.cell? ⟨b,7,none⟩=some (.string x.r.root)∧w.cell? ⟨b,8,none⟩=some (.string x.r.name)∧w.cell? ⟨b,9,none⟩=some (.string x.was)∧w.cell? ⟨b,10,none⟩=some (.string x.tag):=
 ⟨h.at_ 0 _ rfl,h.at_ 1 _ rfl,h.at_ 2 _ rfl,h.at_ 3 _ rfl,h.at_ 4 _ rfl,h.at_ 5 _ rfl,h.at_ 6 _ rfl,h.at_ 7 _ rfl,h.at_ 8 _ rfl,h.at_ 9 _ rfl,h.at_ 10 _ rfl⟩
theorem ml (x:aH) (w:World) (hname:x.r.name.size≤1073741824) (hf:Fits x.r.epoch) (hs:Fits x.seq):
  Calls Tryz.prog 210 #[x.v] w fun e w'=>e= .returned (.bool (bX x))∧Below w.heap.size w w':=by
 by_cases c1:0≤x.seq∧x.seq≤4294967295
 ·have HC:=Lib.hid c1;clear c1
  go_enter Tryz.func210,Tryz.ntmps210
  go_wp2_with ((with_reducible refine ai 71 (.tmp 0) x.cells (some 1) ?hgd ?ho ?hd ?hx ?_);(case hgd|ho|hd|hx=>rfl);(intro b w0 l0 B0 e0 z0;have R0:=Lib.hid (dE.blk B0);obtain⟨a0,a1,a2,a3,a4,a5,a6,a7,a8,a9,aA⟩:=R0.out.cells_))
  clear a0 a1 a2 a3 a4 a5 a6 a7 a8 a9 aA
  refine(gy x.seq _ hs).mono ?_
  rintro e w1 ⟨he,hb1⟩
  obtain⟨q,rfl,tq⟩:=he.yes HC.out
  have R1:=Lib.hid (R0.out.below hb1 z0)
  obtain⟨a0,a1,a2,a3,a4,a5,a6,a7,a8,a9,aA⟩:=R1.out.cells_
  go_wp2_with fail
  clear a0 a1 a2 a3 a4 a5 a6 a7 a8 a9 aA
  refine(gx x.r _ hname hf).mono ?_
  rintro e w2 ⟨rfl,hb2⟩
  have R2:=Lib.hid (R1.out.below hb2 R1.out.lt)
  obtain⟨a0,a1,a2,a3,a4,a5,a6,a7,a8,a9,aA⟩:=R2.out.cells_
  have hbw:=(e0.mono l0).trans ((bt hb1 hb2).mono (by have:=e0.size;omega))
  cases hok:aE x.r with
  |true=>
   rw[ku hok]
   have HK:=Lib.hid hok;clear hok
   go_wp2_with fail
   all_goals(go_ret;refine⟨cL ?_,hbw⟩;have k1:=HC.out;have k2:=HK.out;simp only[bX,k2,Bool.and_true];first|(simp[*];done)|(simp[*];intros;omega)|(rw[Bool.eq_iff_iff];simp;omega))
  |false=>
   rw[nS hok]
   have HK:=Lib.hid hok;clear hok
   go_wp2_with fail
   all_goals(go_ret;refine⟨cL ?_,hbw⟩;have k2:=HK.out;simp only[bX,k2,Bool.and_false,Bool.false_and])
 ·have HC:=Lib.hid c1;clear c1
  go_enter Tryz.func210,Tryz.ntmps210
  go_wp2_with ((with_reducible refine ai 71 (.tmp 0) x.cells (some 1) ?hgd ?ho ?hd ?hx ?_);(case hgd|ho|hd|hx=>rfl);(intro b w0 l0 B0 e0 z0;have R0:=Lib.hid (dE.blk B0);obtain⟨a0,a1,a2,a3,a4,a5,a6,a7,a8,a9,aA⟩:=R0.out.cells_))
  clear a0 a1 a2 a3 a4 a5 a6 a7 a8 a9 aA
  refine(gy x.seq _ hs).mono ?_
  rintro e w1 ⟨he,hb1⟩
  obtain rfl:=he.no HC.out
  have R1:=Lib.hid (R0.out.below hb1 z0)
  obtain⟨a0,a1,a2,a3,a4,a5,a6,a7,a8,a9,aA⟩:=R1.out.cells_
  have hbw:=(e0.mono l0).trans (hb1.mono (by have:=e0.size;omega))
  go_wp2_with fail
  all_goals(go_ret;refine⟨cL ?_,hbw⟩;have k1:=HC.out;simp only[bX,←Bool.decide_and,k1];simp)
def DK (r:Rec):Bool:=decide ((r.root.size:Int)≤5000)&&decide ((r.name.size:Int)≤5000)
def AV (x:aH):Bool:=DK x.r&&decide ((x.was.size:Int)≤1000)&&decide ((x.tag.size:Int)≤1000)
theorem gz (v:Value) (l:List ax) (w:World) (h:cH w v l) (hl:l.length≤1048576):
  Calls Tryz.prog 199 #[v] w fun e w'=>e= .returned (.string (cT l))∧Below w.heap.size w w':=by
 by_cases h0:l=[]
 ·subst h0
  obtain⟨a,c,rfl⟩:=h.shape
  clear h
  go_enter Tryz.func199,Tryz.ntmps199
  go_wp2_with fail
  refine(zb _).mono ?_
  rintro e w1 ⟨p,rfl,tp,hb1⟩
  go_wp2_with fail
  go_ret
  exact⟨ER (tp.eqB),hb1⟩
 ·rcases h with⟨rfl,_⟩|⟨g,o,c,rfl,hcap,hg,hat⟩
  ·exact absurd rfl h0
  obtain⟨n,hn⟩:∃n,n=l.length:=⟨_,rfl⟩
  have hpos:0<n:=by rw[hn];exact List.length_pos_iff.2 h0
  obtain⟨x,hx⟩:∃x,l[n-1]?=some x:=⟨_,List.getElem?_eq_getElem (by omega)⟩
  have c8:w.cell? ⟨g,o+(n-1)*9+8,none⟩=some (.string x.tag):=hat _ x hx 8 _ rfl
  have hlast:cT l=x.tag:=by
   unfold cT
   rw[List.getLast?_eq_getElem?,←hn,hx]
  have HL:=Lib.hid hlast
  have k1:(0:Int)≤(n:Int)-1:=by omega
  have k2:(n:Int)-1<n:=by omega
  have k3:¬((n:Int)=0):=by omega
  have k4:(n:Int)≤1048576:=by omega
  clear hat hx h0 hlast
  rw[←hn]
  rw[←hn]at hcap
  clear hn hl
  go_enter Tryz.func199,Tryz.ntmps199
  go_wp2_with fail
  go_ret
  exact⟨ER HL.out.symm,Below.refl _ _⟩
def rcpAt (l:List ax) (k:Nat) (x:ax):aH:=⟨(k:Int),x.r,cT (l.take k),x.tag⟩
def iz (l:List ax) (i:Int):Option ax:=if 0≤i then(l[i.toNat]?).filter (fun x=>decide (x.r.kind=1))else none
def gA (l:List ax) (i:Int):aH×Int:=
 match iz l i with
 |none=>(aH.zero,7)
 |some x=>if bX (rcpAt l i.toNat x)then(rcpAt l i.toNat x,0)else(aH.zero,2)
theorem pR {l:List ax} {i:Int} (h:iz l i=none):gA l i=(aH.zero,7):=by unfold gA;rw[h]
theorem wQ {l:List ax} {i:Int} (h:¬(0≤i∧i<l.length)):iz l i=none:=by
 unfold iz
 split
 ·rw[List.getElem?_eq_none (by omega)];rfl
 ·rfl
theorem pS {l:List ax} {k:Nat} {x:ax} (h:l[k]?=some x):iz l k=if x.r.kind=1 then some x else none:=by
 unfold iz
 rw[if_pos (by omega),Int.toNat_natCast,h]
 by_cases hk:x.r.kind=1
 ·rw[if_pos hk];simp[Option.filter,hk]
 ·rw[if_neg hk];simp[Option.filter,hk]
theorem DL {l:List ax} {k:Nat} {x:ax} (h:l[k]?=some x) (hk:x.r.kind=1):gA l k=if bX (rcpAt l k x)then(rcpAt l k x,0)else(aH.zero,2):=by
 unfold gA
 rw[pS h,if_pos hk]
 rfl
def kh (l:List ax):Prop:=∀(j:Nat) (x:ax),l[j]?=some x→x.r.name.size≤1048576∧x.r.root.size≤1048576∧x.tag.size≤1048576∧Fits x.r.epoch
theorem iC (w:World):Sem.run Tryz.prog (zeroValue 71) w= .ok (.agg aH.zero.cells.toArray) w:=by kernel_rfl
theorem aH.cells_one (x:aH):∀v∈x.cells,v.oneCell'=true:=by intro v hv;simp[aH.cells]at hv;rcases hv with rfl|rfl|rfl|rfl|rfl|rfl|rfl|rfl|rfl|rfl|rfl<;>rfl
theorem Ir {w:World} {b:Nat} {old:List Value} {t:TypeId} {v0 v1 v2 v3 v4 v5 v6 v7 v8 v9 v10:Value} (h:ac w b old t) (hl:old.length=11):
  ac (((((((((((w.setCell ⟨b,0,none⟩ v0).setCell ⟨b,1,none⟩ v1).setCell ⟨b,2,none⟩ v2).setCell ⟨b,3,none⟩ v3).setCell ⟨b,4,none⟩ v4).setCell ⟨b,5,none⟩ v5).setCell ⟨b,6,none⟩ v6).setCell ⟨b,7,none⟩ v7).setCell ⟨b,8,none⟩ v8).setCell ⟨b,9,none⟩ v9).setCell ⟨b,10,none⟩ v10) b [v0,v1,v2,v3,v4,v5,v6,v7,v8,v9,v10] t:=
 (((((((((((h.set 0 v0).set 1 v1).set 2 v2).set 3 v3).set 4 v4).set 5 v5).set 6 v6).set 7 v7).set 8 v8).set 9 v9).set 10 v10).ext (by
   match old,hl with
   |[_,_,_,_,_,_,_,_,_,_,_],_=>rfl)
theorem Fh {B:Nat} {a w:World} {b:Nat} {v0 v1 v2 v3 v4 v5 v6 v7 v8 v9 v10:Value} (h:Below B a w) (hB:B≤b):Below B a (((((((((((w.setCell ⟨b,0,none⟩ v0).setCell ⟨b,1,none⟩ v1).setCell ⟨b,2,none⟩ v2).setCell ⟨b,3,none⟩ v3).setCell ⟨b,4,none⟩ v4).setCell ⟨b,5,none⟩ v5).setCell ⟨b,6,none⟩ v6).setCell ⟨b,7,none⟩ v7).setCell ⟨b,8,none⟩ v8).setCell ⟨b,9,none⟩ v9).setCell ⟨b,10,none⟩ v10):=
 ((((((((((((bH.refl b w).setCell 0 v0).setCell 1 v1).setCell 2 v2).setCell 3 v3).setCell 4 v4).setCell 5 v5).setCell 6 v6).setCell 7 v7).setCell 8 v8).setCell 9 v9).setCell 10 v10).below h hB
theorem um {l:List ax} {k:Nat} {x:ax} (hk:x.r.kind=1):[.int .i64 (k:Int), .int .i64 1, .int .i64 x.r.epoch, .int .i64 x.r.time, .int .i64 x.r.count, .int .i64 x.r.target, .int .i64 x.r.till, .string x.r.root, .string x.r.name, .string (cT (l.take k)), .string x.tag]=(rcpAt l k x).cells:=by
 show _=[Value.int .i64 (k:Int), .int .i64 x.r.kind, .int .i64 x.r.epoch, .int .i64 x.r.time, .int .i64 x.r.count, .int .i64 x.r.target, .int .i64 x.r.till, .string x.r.root, .string x.r.name, .string (cT (l.take k)), .string x.tag]
 rw[hk]
theorem Gy (w:World) {l:List ax} {k:Nat} {x:ax} (hk:x.r.kind=1):dE (w.alloc (Obj.cells #[.int .i64 (k:Int), .int .i64 1, .int .i64 x.r.epoch, .int .i64 x.r.time, .int .i64 x.r.count, .int .i64 x.r.target, .int .i64 x.r.till, .string x.r.root, .string x.r.name, .string (cT (l.take k)), .string x.tag] 71)) w.heap.size (rcpAt l k x):=
 dE.blk (t:=71) ((ac.new w [.int .i64 (k:Int), .int .i64 1, .int .i64 x.r.epoch, .int .i64 x.r.time, .int .i64 x.r.count, .int .i64 x.r.target, .int .i64 x.r.till, .string x.r.root, .string x.r.name, .string (cT (l.take k)), .string x.tag] 71).ext (um hk))
theorem Gz {w:World} {b:Nat} {l:List ax} {k:Nat} {x:ax} (hk:x.r.kind=1) (h:ac w b aH.zero.cells 71):dE (((((((((((w.setCell ⟨b,0,none⟩ (.int .i64 (k:Int))).setCell ⟨b,1,none⟩ (.int .i64 1)).setCell ⟨b,2,none⟩ (.int .i64 x.r.epoch)).setCell ⟨b,3,none⟩ (.int .i64 x.r.time)).setCell ⟨b,4,none⟩ (.int .i64 x.r.count)).setCell ⟨b,5,none⟩ (.int .i64 x.r.target)).setCell ⟨b,6,none⟩ (.int .i64 x.r.till)).setCell ⟨b,7,none⟩ (.string x.r.root)).setCell ⟨b,8,none⟩ (.string x.r.name)).setCell ⟨b,9,none⟩ (.string (cT (l.take k)))).setCell ⟨b,10,none⟩ (.string x.tag)) b (rcpAt l k x):=
 dE.blk (t:=71) ((Ir h rfl).ext (um hk))
theorem eL {fn:Func} {p u:Tmp} (h:fn.results=#[.cell p 71, .tmp u]) (tmps:Array Value) (w:World) {b:Nat} {x:aH} (hb:dE w b x) (hp:tmps.getD p undef= .pointer (some ⟨b,0,none⟩)):
  (results fn tmps).run Tryz.prog w= .ok (.tuple #[x.v,tmps.getD u undef]) w:=by
 rw[results_cell_tmp h,hp]
 have e:=run_loadVar_mid (P:=Tryz.prog) w b 0 71 x.cells _ (fun i u hu=>by rw[Nat.zero_add];exact hb.at_ i u hu) Tryz.underlying71 rfl bI
 simp only[asAddr,Sem.run_pure,Result.andThen_ok,e]
 rfl
def nT (l:List ax) (i:Int) (e:Ending):Prop:=e= .returned (.tuple #[(gA l i).1.v, .int .i64 (gA l i).2])
theorem rS (v:Value) (l:List ax) (i:Int) (w:World) (h:cH w v l) (hl:l.length≤1048576) (ht:kh l):
  Calls Tryz.prog 106 #[v, .int .i64 i] w fun e w'=>nT l i e∧Below w.heap.size w w':=by
 unfold nT
 by_cases hin:0≤i∧i<l.length
 rotate_left
 ·rw[pR (wQ hin)]
  obtain⟨p,c,rfl⟩:=h.shape
  obtain⟨n,hn⟩:∃n,n=l.length:=⟨_,rfl⟩
  rw[←hn]
  rw[←hn]at hin
  clear h ht hn hl
  by_cases hneg:i<0
  ·go_enter Tryz.func106,Tryz.ntmps106
   go_wp2_with (first|((with_reducible refine af 71 aH.zero.cells iC (some 4) ?hgd ?ho ?hd ?_);(case hgd|ho|hd=>rfl);(intro b4 w4 l4 B4 e4 z4))|((with_reducible refine ae 71 (.tmp 4) (.tmp 24) b4 aH.zero.cells aH.zero.cells 71 B4 rfl bI (aH.cells_one _) ?hgd ?ho ?hx ?hy ?_);(case hgd|ho|hx|hy=>rfl);(intro w5 B5 o5)))
   (try simp only[Exit.inBlock,Exit.then]);refine bodyPost_ret (eL rfl _ _ (dE.blk B5) rfl) rfl ⟨rfl,o5.below (e4.mono l4) l4⟩
  ·have h1:0≤i:=by omega
   have h2:(n:Int)≤i:=by omega
   go_enter Tryz.func106,Tryz.ntmps106
   go_wp2_with (first|((with_reducible refine af 71 aH.zero.cells iC (some 4) ?hgd ?ho ?hd ?_);(case hgd|ho|hd=>rfl);(intro b4 w4 l4 B4 e4 z4))|((with_reducible refine ae 71 (.tmp 4) (.tmp 24) b4 aH.zero.cells aH.zero.cells 71 B4 rfl bI (aH.cells_one _) ?hgd ?ho ?hx ?hy ?_);(case hgd|ho|hx|hy=>rfl);(intro w5 B5 o5)))
   (try simp only[Exit.inBlock,Exit.then]);refine bodyPost_ret (eL rfl _ _ (dE.blk B5) rfl) rfl ⟨rfl,o5.below (e4.mono l4) l4⟩
 ·rcases h with⟨rfl,_⟩|⟨g,o,c,rfl,hcap,hg,hat⟩
  ·simp at hin;omega
  obtain⟨k,rfl⟩:∃k:Nat,i=(k:Int):=⟨i.toNat,by omega⟩
  have hkl:k<l.length:=by omega
  obtain⟨x,hx⟩:∃x,l[k]?=some x:=⟨_,List.getElem?_eq_getElem hkl⟩
  obtain⟨n,hn⟩:∃n,n=l.length:=⟨_,rfl⟩
  have HA:Hid (kL w g o n c l):=Lib.hid ⟨hn,by omega,hg,hat⟩
  have hrow:cH w (.slice (some ⟨g,o,none⟩) n c) l:=HA.out.row
  have HT:=Lib.hid (ht k x hx)
  have hk0:(0:Int)≤(k:Int):=by omega
  have hkn:(k:Int)<n:=by omega
  have hkc:(k:Int)≤c:=by omega
  have hkn':k≤n:=by omega
  have hnk:¬n≤k:=by omega
  have hkt:(l.take k).length≤1048576:=by rw[List.length_take];omega
  have HKT:=Lib.hid hkt
  have HKK:Hid ((k:Int)≤1048576):=Lib.hid (by omega)
  rw[←hn]
  have HX:=Lib.hid hx
  by_cases hk:x.r.kind=1
  rotate_left
  ·have hkb:(x.r.kind !=1)=true:=by simpa using hk
   have hm:gA l (k:Int)=(aH.zero,7):=pR (by rw[pS hx,if_neg hk])
   rw[hm]
   clear hm hx hat hkl hl hn ht hrow hkt
   go_enter Tryz.func106,Tryz.ntmps106
   go_wp2_with (first|((with_reducible refine af 71 aH.zero.cells iC (some 4) ?hgd ?ho ?hd ?_);(case hgd|ho|hd=>rfl);(intro b4 w4 l4 B4 e4 z4);(have HA4:=Lib.hid (HA.out.below e4 l4));(obtain⟨c0,c1,c2,c3,c4,c5,c6,c7,c8⟩:=rQ (HA4.out.at_ k x HX.out)))|((with_reducible refine ae 71 (.tmp 4) (.tmp 24) b4 aH.zero.cells aH.zero.cells 71 B4 rfl bI (aH.cells_one _) ?hgd ?ho ?hx ?hy ?_);(case hgd|ho|hx|hy=>rfl);(intro w5 B5 o5)))
   (try simp only[Exit.inBlock,Exit.then]);refine bodyPost_ret (eL rfl _ _ (dE.blk B5) rfl) rfl ⟨rfl,o5.below (e4.mono l4) l4⟩
  ·have hm:=DL hx hk
   have HM:=Lib.hid hm
   clear hm hx hat hkl hl hn ht hrow hkt
   go_enter Tryz.func106,Tryz.ntmps106
   go_wp2_with ((with_reducible refine af 71 aH.zero.cells iC (some 4) ?hgd ?ho ?hd ?_);(case hgd|ho|hd=>rfl);(intro b4 w4 l4 B4 e4 z4);(have HA4:=Lib.hid (HA.out.below e4 l4));(obtain⟨c0,c1,c2,c3,c4,c5,c6,c7,c8⟩:=rQ (HA4.out.at_ k x HX.out)))
   have hg1:¬g=w4.heap.size:=by have:=HA4.out.lt;omega
   have hg2:¬w4.heap.size=g:=by omega
   have hg3:g<w4.heap.size:=HA4.out.lt
   go_cut [6]from 25 to 41 (fun v6 wc=>∃b6,v6= .pointer (some ⟨b6,0,none⟩)∧dE wc b6 (rcpAt l k x)∧w4.heap.size≤b6∧Below w4.heap.size w4 wc)
   case first=>
    go_region_held3 (fun w'=>w'.cell? ⟨g,o+k*9,none⟩=some (.int .i64 x.r.kind)∧w'.cell? ⟨g,o+k*9+1,none⟩=some (.int .i64 x.r.epoch)∧w'.cell? ⟨g,o+k*9+2,none⟩=some (.int .i64 x.r.time)∧w'.cell? ⟨g,o+k*9+3,none⟩=some (.int .i64 x.r.count)∧w'.cell? ⟨g,o+k*9+4,none⟩=some (.int .i64 x.r.target)∧w'.cell? ⟨g,o+k*9+5,none⟩=some (.int .i64 x.r.till)∧w'.cell? ⟨g,o+k*9+6,none⟩=some (.string x.r.root)∧w'.cell? ⟨g,o+k*9+7,none⟩=some (.string x.r.name)∧w'.cell? ⟨g,o+k*9+8,none⟩=some (.string x.tag)) (go_keep) ((first|(go_at_call_of 199 (Value.slice (some ⟨g,o,none⟩) k c);refine(gz _ (l.take k) _ (by first|exact(HA4.out.below (Below.refl _ _).drew (Nat.le_refl _)).take hkn'|exact(HA4.out.below ((Below.refl _ _).drew.alloc (Nat.le_refl _) _) (Nat.le_refl _)).take hkn') HKT.out).mono ?_;rintro e wA ⟨rfl,hbA⟩;have d0:=hbA.cell (p:=⟨g,o+k*9,none⟩) (by have:=HA4.out.lt;first|exact this|exact Nat.lt_of_lt_of_le this (by simp));have d1:=hbA.cell (p:=⟨g,o+k*9+1,none⟩) (by have:=HA4.out.lt;first|exact this|exact Nat.lt_of_lt_of_le this (by simp));have d2:=hbA.cell (p:=⟨g,o+k*9+2,none⟩) (by have:=HA4.out.lt;first|exact this|exact Nat.lt_of_lt_of_le this (by simp));have d3:=hbA.cell (p:=⟨g,o+k*9+3,none⟩) (by have:=HA4.out.lt;first|exact this|exact Nat.lt_of_lt_of_le this (by simp));have d4:=hbA.cell (p:=⟨g,o+k*9+4,none⟩) (by have:=HA4.out.lt;first|exact this|exact Nat.lt_of_lt_of_le this (by simp));have d5:=hbA.cell (p:=⟨g,o+k*9+5,none⟩) (by have:=HA4.out.lt;first|exact this|exact Nat.lt_of_lt_of_le this (by simp));have d6:=hbA.cell (p:=⟨g,o+k*9+6,none⟩) (by have:=HA4.out.lt;first|exact this|exact Nat.lt_of_lt_of_le this (by simp));have d7:=hbA.cell (p:=⟨g,o+k*9+7,none⟩) (by have:=HA4.out.lt;first|exact this|exact Nat.lt_of_lt_of_le this (by simp));have d8:=hbA.cell (p:=⟨g,o+k*9+8,none⟩) (by have:=HA4.out.lt;first|exact this|exact Nat.lt_of_lt_of_le this (by simp));have hsz:w4.heap.size≤wA.heap.size:=(by have hq:=hbA.size;first|exact hq|exact Nat.le_trans (by simp) hq);have hg4:g<wA.heap.size:=Nat.lt_of_lt_of_le hg3 hsz;have hg5:¬g=wA.heap.size:=Nat.ne_of_lt hg4;have hg6:¬wA.heap.size=g:=Nat.ne_of_gt hg4;have hz:=fun(i:Nat) (h:w4.heap.size<_)=>hbA.cell (p:=⟨w4.heap.size,i,none⟩) h;have hf:=fun(i:Nat) (h:w4.heap.size<_)=>hbA.frozen (p:=⟨w4.heap.size,i,none⟩) h;have hz1:=fun(h:w4.heap.size<_)=>Nat.lt_of_lt_of_le h hbA.size;have hz2:=fun(h:w4.heap.size<_)=>Nat.ne_of_lt (Nat.lt_of_lt_of_le h hbA.size))|fail))
    all_goals go_wp2_with fail
    all_goals go_meet
    ·exact⟨_,rfl,Gy wA hk,hsz,((Below.refl w4.heap.size w4).drew.trans hbA).alloc hsz _⟩
    ·exact⟨_,rfl,Gz hk ((ac.new w4.drew aH.zero.cells 71).below hbA (by simp)),Nat.le_refl _,Fh (((Below.refl w4.heap.size w4).drew.alloc (Nat.le_refl _) _).trans (hbA.mono (by simp))) (Nat.le_refl _)⟩
   case rest=>
    clear c0 c1 c2 c3 c4 c5 c6 c7 c8
    obtain⟨b6,rfl,R6,hb6,hbc⟩:=hcut
    have B4c:=B4.below hbc z4
    have R6:=Lib.hid R6
    obtain⟨a0,a1,a2,a3,a4,a5,a6,a7,a8,a9,aA⟩:=R6.out.cells_
    go_wp2_with fail
    clear a0 a1 a2 a3 a4 a5 a6 a7 a8 a9 aA
    have hsz:=hbc.size
    refine(ml (rcpAt l k x) _ (by have:=HT.out.1;show x.r.name.size≤_;omega) HT.out.2.2.2 (by show Fits (k:Int);have:=HKK.out;unfold Fits;omega)).mono ?_
    rintro e w7 ⟨rfl,hb7⟩
    have B4:=B4c.below hb7 (by omega)
    have R7:=Lib.hid (R6.out.below hb7 R6.out.lt)
    obtain⟨a0,a1,a2,a3,a4,a5,a6,a7,a8,a9,aA⟩:=R7.out.cells_
    have hbw:Below w.heap.size w w7:=(e4.mono l4).trans ((hbc.trans (hb7.mono hsz)).mono (by omega))
    cases hok:bX (rcpAt l k x)with
    |true=>
     have hm:=HM.out
     rw[hok]at hm
     have HM:=Lib.hid hm
     clear hm hok
     go_wp2_with ((with_reducible refine ae 71 (.tmp 4) (.tmp 45) b4 aH.zero.cells (rcpAt l k x).cells 71 B4 rfl bI (aH.cells_one _) ?hgd ?ho ?hx ?hy ?_);(case hgd|ho|hx|hy=>rfl);(intro w5 B5 o5))
     (try simp only[Exit.inBlock,Exit.then]);refine bodyPost_ret (eL rfl _ _ (dE.blk B5) rfl) rfl ⟨by rw[HM.out];rfl,o5.below hbw l4⟩
    |false=>
     have hm:=HM.out
     rw[hok]at hm
     have HM:=Lib.hid hm
     clear hm hok a0 a1 a2 a3 a4 a5 a6 a7 a8 a9 aA
     go_wp2_with ((with_reducible refine ae 71 (.tmp 4) (.tmp 44) b4 aH.zero.cells aH.zero.cells 71 B4 rfl bI (aH.cells_one _) ?hgd ?ho ?hx ?hy ?_);(case hgd|ho|hx|hy=>rfl);(intro w5 B5 o5))
     (try simp only[Exit.inBlock,Exit.then]);refine bodyPost_ret (eL rfl _ _ (dE.blk B5) rfl) rfl ⟨by rw[HM.out];rfl,o5.below hbw l4⟩
deriving instance DecidableEq for Rec
deriving instance DecidableEq for aH
deriving instance DecidableEq for ax
def mm (x y:Rec):Bool:=decide (x=y)
def ze (x y:aH):Bool:=decide (x=y)
def zf (x y:ax):Bool:=decide (x=y)
theorem AW (k ep ti co ta un:Int) (ro na:ByteArray) (k' ep' ti' co' ta' un':Int) (ro' na':ByteArray) (d:Nat) (w:World):
  (Op.equalIn (d+2) 59 (.agg #[.int .i64 k, .int .i64 ep, .int .i64 ti, .int .i64 co, .int .i64 ta, .int .i64 un, .string ro, .string na]) (.agg #[.int .i64 k', .int .i64 ep', .int .i64 ti', .int .i64 co', .int .i64 ta', .int .i64 un', .string ro', .string na'])).run Tryz.prog w= .ok (mm ⟨k,ep,ti,co,ta,un,ro,na⟩ ⟨k',ep',ti',co',ta',un',ro',na'⟩) w:=by
 have e:mm ⟨k,ep,ti,co,ta,un,ro,na⟩ ⟨k',ep',ti',co',ta',un',ro',na'⟩=(k==k'&&(ep==ep'&&(ti==ti'&&(co==co'&&(ta==ta'&&(un==un'&&(decide (ro=ro')&&(decide (na=na')&&true)))))))):=by
  unfold mm
  rw[Bool.eq_iff_iff]
  simp
 rw[e]
 refine iE (d:=d+1) Tryz.underlying59 (by kernel_rfl) ?_
 refine eH (k:= .i64) (by decide) (by kernel_rfl) (by kernel_rfl) Tryz.underlying3 ?_
 refine eH (k:= .i64) (by decide) (by kernel_rfl) (by kernel_rfl) Tryz.underlying3 ?_
 refine eH (k:= .i64) (by decide) (by kernel_rfl) (by kernel_rfl) Tryz.underlying3 ?_
 refine eH (k:= .i64) (by decide) (by kernel_rfl) (by kernel_rfl) Tryz.underlying3 ?_
 refine eH (k:= .i64) (by decide) (by kernel_rfl) (by kernel_rfl) Tryz.underlying3 ?_
 refine eH (k:= .i64) (by decide) (by kernel_rfl) (by kernel_rfl) Tryz.underlying3 ?_
 refine kj (by decide) (by kernel_rfl) (by kernel_rfl) Tryz.underlying9 ?_
 refine kj (by decide) (by kernel_rfl) (by kernel_rfl) Tryz.underlying9 ?_
 exact ki
theorem GA (k ep ti co ta un:Int) (ro na tg:ByteArray) (k' ep' ti' co' ta' un':Int) (ro' na' tg':ByteArray) (w:World):
  (Op.equalIn 10000 61 (.agg #[.int .i64 k, .int .i64 ep, .int .i64 ti, .int .i64 co, .int .i64 ta, .int .i64 un, .string ro, .string na, .string tg]) (.agg #[.int .i64 k', .int .i64 ep', .int .i64 ti', .int .i64 co', .int .i64 ta', .int .i64 un', .string ro', .string na', .string tg'])).run Tryz.prog w= .ok (zf ⟨⟨k,ep,ti,co,ta,un,ro,na⟩,tg⟩ ⟨⟨k',ep',ti',co',ta',un',ro',na'⟩,tg'⟩) w:=by
 have e:zf ⟨⟨k,ep,ti,co,ta,un,ro,na⟩,tg⟩ ⟨⟨k',ep',ti',co',ta',un',ro',na'⟩,tg'⟩=(mm ⟨k,ep,ti,co,ta,un,ro,na⟩ ⟨k',ep',ti',co',ta',un',ro',na'⟩&&(decide (tg=tg')&&true)):=by
  unfold zf mm
  rw[Bool.eq_iff_iff]
  simp
 rw[e]
 refine iE (d:=9999) Tryz.underlying61 (by kernel_rfl) ?_
 refine yJ (by decide) (by kernel_rfl) (by kernel_rfl) (AW k ep ti co ta un ro na k' ep' ti' co' ta' un' ro' na' 9997 w) ?_
 refine kj (d:=9998) (by decide) (by kernel_rfl) (by kernel_rfl) Tryz.underlying9 ?_
 exact ki
theorem GB (s k ep ti co ta un:Int) (ro na wa tg:ByteArray) (s' k' ep' ti' co' ta' un':Int) (ro' na' wa' tg':ByteArray) (w:World):
  (Op.equalIn 10000 71 (.agg #[.int .i64 s, .int .i64 k, .int .i64 ep, .int .i64 ti, .int .i64 co, .int .i64 ta, .int .i64 un, .string ro, .string na, .string wa, .string tg]) (.agg #[.int .i64 s', .int .i64 k', .int .i64 ep', .int .i64 ti', .int .i64 co', .int .i64 ta', .int .i64 un', .string ro', .string na', .string wa', .string tg'])).run Tryz.prog w= .ok (ze ⟨s,⟨k,ep,ti,co,ta,un,ro,na⟩,wa,tg⟩ ⟨s',⟨k',ep',ti',co',ta',un',ro',na'⟩,wa',tg'⟩) w:=by
 have e:ze ⟨s,⟨k,ep,ti,co,ta,un,ro,na⟩,wa,tg⟩ ⟨s',⟨k',ep',ti',co',ta',un',ro',na'⟩,wa',tg'⟩=(s==s'&&(mm ⟨k,ep,ti,co,ta,un,ro,na⟩ ⟨k',ep',ti',co',ta',un',ro',na'⟩&&(decide (wa=wa')&&(decide (tg=tg')&&true)))):=by
  unfold ze mm
  rw[Bool.eq_iff_iff]
  simp
 rw[e]
 refine iE (d:=9999) Tryz.underlying71 (by kernel_rfl) ?_
 refine eH (k:= .i64) (d:=9998) (by decide) (by kernel_rfl) (by kernel_rfl) Tryz.underlying3 ?_
 refine yJ (by decide) (by kernel_rfl) (by kernel_rfl) (AW k ep ti co ta un ro na k' ep' ti' co' ta' un' ro' na' 9997 w) ?_
 refine kj (d:=9998) (by decide) (by kernel_rfl) (by kernel_rfl) Tryz.underlying9 ?_
 refine kj (d:=9998) (by decide) (by kernel_rfl) (by kernel_rfl) Tryz.underlying9 ?_
 exact ki
theorem DN:Tryz.prog.eqGuardType Tryz.prog.depth 71=false:=by kernel_rfl
theorem DO:Tryz.prog.eqGuardType Tryz.prog.depth 61=false:=by kernel_rfl
open Go.ChangeShapes Go.WideShapes Go.Deep
structure Fj (x:aH):Prop where
 seq:Fits x.seq
 r:qS x.r
section
variable {H:Type} {enc:TypeId×Value→H} {w:World} {base:Nat} {spare:Nat→Bool} {held:Bool}
end
def Is (ys:List aH):List Value:=ys.flatMap aH.cells
structure IW (W0 w:World) (pl po:Nat) (v:Value) (ys:List aH):Prop where
 lies:ac w pl [v] 106
 out:∃vo,ac w po [vo] 141∧w.ownsRow (po+1) 71 11 vo ys.length (Is ys)
 bel:Below W0.heap.size W0 w
def closes (l:List Rec):Nat:=(l.filter (fun r=>decide (r.kind=1))).length
theorem oI (r:Rec) (l:List Rec):closes (r::l)=(if r.kind=1 then 1 else 0)+closes l:=by
 unfold closes
 by_cases h:r.kind=1
 ·simp[List.filter_cons,h,Nat.add_comm]
 ·simp[List.filter_cons,h]
structure AX (first:Int) (l:List Rec):Prop where
 each:∀(k:Nat) (r:Rec),l[k]?=some r→aE r=true∧r.epoch=first+(closes (l.take k):Int)
theorem sL (ep now:Int) (i:Nat) (r:Rec) (l:List Rec):gj ep now i (r::l)=if aE r=true∧r.epoch=ep∧now≤r.time then gj (if r.kind=1 then ep+1 else ep) r.time (i+1) l else(ep,i,16):=rfl
theorem AY (l:List Rec):∀(ep now:Int) (i:Nat),(gj ep now i l).2.2=0→(gj ep now i l).1=ep+(closes l:Int)∧(gj ep now i l).2.1=i+l.length∧AX ep l:=by
 induction l with
 |nil=>intro ep now i _;exact⟨by simp[gj,closes],rfl,⟨fun k r h=>by simp at h⟩⟩
 |cons r l ih=>
  intro ep now i h
  rw[sL]at h ⊢
  by_cases hc:aE r=true∧r.epoch=ep∧now≤r.time
  ·rw[if_pos hc]at h ⊢
   obtain⟨h1,h2,h3⟩:=ih _ _ _ h
   refine⟨?_,by rw[h2,List.length_cons];omega,⟨?_⟩⟩
   ·rw[h1,oI]
    by_cases hk:r.kind=1<;>simp[hk]<;>omega
   ·intro k x hx
    cases k with
    |zero=>
     simp at hx
     subst hx
     exact⟨hc.1,by simp[closes,hc.2.1]⟩
    |succ k=>
     obtain⟨g1,g2⟩:=h3.each k x (by simpa using hx)
     refine⟨g1, ?_⟩
     rw[g2,List.take_succ_cons,oI]
     by_cases hk:r.kind=1<;>simp[hk]<;>omega
  ·rw[if_neg hc]at h
   simp at h
theorem wR (l:List Rec) (k:Nat):closes (l.take k)≤closes l:=by
 have h:=List.take_append_drop k l
 have:closes l=closes (l.take k)+closes (l.drop k):=by
  conv=>lhs;rw[←h]
  unfold closes
  rw[List.filter_append,List.length_append]
 omega
theorem py (l:List Rec) {j k:Nat} (h:j≤k):closes (l.take j)≤closes (l.take k):=by
 have:=wR (l.take k) j
 rw[List.take_take,Nat.min_eq_left h]at this
 exact this
def yC (first:Int) (l:List Rec):Bool:=match l.getLast? with|some r=>decide (4096<r.epoch-first)|none=>false
structure AZ (root:ByteArray) (first:Int) (l:List Rec):Prop where
 root:root.size=32
 first0:0≤first
 first1:first≤4294967295
 follow:(gj first 0 0 l).2.2=0
 near:yC first l=false
theorem AZ.epochs {root:ByteArray} {first:Int} {l:List Rec} (h:AZ root first l):∀(k:Nat) (r:Rec),l[k]?=some r→aE r=true∧r.epoch=first+(closes (l.take k):Int)∧r.epoch-first≤4096:=by
 intro k r hk
 obtain⟨_,_,h3⟩:=AY l _ _ _ h.follow
 obtain⟨g1,g2⟩:=h3.each k r hk
 refine⟨g1,g2, ?_⟩
 have hlen:=(List.getElem?_eq_some_iff.1 hk).1
 obtain⟨z,hz⟩:∃z,l[l.length-1]?=some z:=⟨_,List.getElem?_eq_getElem (by omega)⟩
 have hl:l.getLast?=some z:=by rw[List.getLast?_eq_getElem?,hz]
 have hn:=h.near
 unfold yC at hn
 rw[hl]at hn
 simp at hn
 have g4:=(h3.each _ z hz).2
 have:=py l (show k≤l.length-1 by omega)
 omega
theorem jC {x:aH} (h:bX x=true):aE x.r=true∧0≤x.r.epoch∧x.r.epoch≤4294967295:=by
 simp only[bX,Bool.and_eq_true,decide_eq_true_eq]at h
 have h1:=h.1.1.1.2
 have h2:=h1
 simp only[aE,Bool.and_eq_true,decide_eq_true_eq]at h2
 exact⟨h1,by omega,by omega⟩
end Go.Proofs.YtngiibgdgenidaaGreat
