/- Do of a volume answers as the model does (chapter 26): the calls that tell an error. Do of a volume answers as the model does (chapter 26): a closing. Do of a volume answers as the model does (chapter 26): reads, Stat, and every call. -/
import Derived.Test.YtadooplpfhdhcaaGreatQ33
import Derived.Test.YtadooplpfhdhcaaGreatQ31
import Derived.Test.YtadooplpfhdhcaaGreatQ29
import Derived.Test.YtadooplpfhdhcaaGreatQ22
set_option linter.unusedSimpArgs false
set_option linter.unusedVariables false
set_option maxRecDepth 100000
set_option maxHeartbeats 4000000
namespace Go.Proofs.YtadooplpfhdhcaaGreat
open Go Go.RowKit Go.Maps Go.WideMaps
open Go.Lib (hid)
open Go.Proofs.Tryz
theorem aS.vlen {v:ai} {m:AM} {log:List LE} {g:Int} (h:aS v m log g):v.vers.length≤1020:=by
 have a:=h.vl;rw[h.L]at a;have b:=List.length_filterMap_le LE.ver log
 have:=h.used_le
 omega
theorem aS.lenv {v:ai} {m:AM} {log:List LE} {g:Int} (h:aS v m log g):v.used=(log.length:Int):=h.used.trans h.lenG.symm
theorem LA {m:AM} {c:aG} (h:c.kind=1):dF m c=gB (if iP m c.lba=0 then(if 4000<(c.data.size:Int)then 2 else if bX m.geo m.used=0 then 5 else 0)else iP m c.lba) m (0,m.writeA c.lba c.data):=if_pos h
theorem LC {m:AM} {c:aG} (h:c.kind=4):dF m c=(0,m):=by unfold dF;rw[if_neg (by omega),if_pos h]
theorem LD {m:AM} {c:aG} (h:c.kind=5):dF m c=(if 4294967295≤m.epoch∨¬m.used<m.geo.blocks-4 then(6,m)else(0,m.closeA)):=by unfold dF;rw[if_neg (by omega),if_neg (by omega),if_pos h]
theorem LF {m:AM} {c:aG} (h:c.kind=6):dF m c=gB (if gA m c.epoch=0 then(if c.time<0∨1099511627776<c.time then 2 else 0)else gA m c.epoch) m (m.seal ⟨2,0,0,0,c.epoch,c.time,⟨#[]⟩,⟨#[]⟩⟩):=by unfold dF;rw[if_neg (by omega),if_neg (by omega),if_neg (by omega),if_pos h]
theorem LG {m:AM} {c:aG} (h:c.kind=7):dF m c=gB (if bN c.name.data.toList=true then gA m c.epoch else 2) m (m.seal ⟨3,0,0,0,c.epoch,0,⟨#[]⟩,c.name⟩):=by unfold dF;rw[if_neg (by omega),if_neg (by omega),if_neg (by omega),if_neg (by omega),if_pos h]
theorem LH {m:AM} {c:aG} (h:c.kind=8):dF m c=gB (if bN c.name.data.toList=true then 0 else 2) m (m.seal ⟨4,0,0,0,0,0,⟨#[]⟩,c.name⟩):=by unfold dF;rw[if_neg (by omega),if_neg (by omega),if_neg (by omega),if_neg (by omega),if_neg (by omega),if_pos h]
theorem LI {m:AM} {c:aG} (h:c.kind=9):dF m c=gB (gA m c.epoch) m (m.seal ⟨5,0,0,0,c.epoch,m.b.till c.epoch,⟨#[]⟩,⟨#[]⟩⟩):=by unfold dF;rw[if_neg (by omega),if_neg (by omega),if_neg (by omega),if_neg (by omega),if_neg (by omega),if_neg (by omega),if_pos h]
theorem KZ {m:AM} {c:aG} (h:c.kind=11):dF m c=gB (fN m.clock c.time) m (0,{m with clock:=c.time}):=by unfold dF;rw[if_neg (by omega),if_neg (by omega),if_neg (by omega),if_neg (by omega),if_neg (by omega),if_neg (by omega),if_neg (by omega),if_pos h]
theorem J5 {now t:Int} (h:fN now t=0):(0≤t∧t≤1099511627776)∧now≤t:=by
 unfold fN at h
 split at h
 ·cases h
 ·split at h
  ·cases h
  ·omega
section
variable {w:World} {i:ap} {v:ai} {m:AM} {log:List LE} {g:Int} {c:aG}
theorem LJ (h:al w i v) (a:aS v m log g) (d:c.kind=11):Calls prog 9 #[.pointer (some ⟨i.vb,0,none⟩),c.v] w fun e w'=>StepA (Goes i (g+1) (dF m c)) w i v e w':=by
 rw[KZ d];refine Ef _ i v c w h d (fun o j=>(DT i v c.time o j).mono fun e w' b=> ?_);rw[a.clock]at b;refine b.step j a (fun l hp=> ?_);obtain⟨k,n⟩:=hp;have f:=J5 l;exact⟨0,_,_,k,n,rfl,rfl,log,(a.tick f.2 f.1.2).mono (by omega)⟩
theorem LU (h:al w i v) (a:aS v m log g) (d:g<1152921504606846976) (f:c.kind=4):Calls prog 9 #[.pointer (some ⟨i.vb,0,none⟩),c.v] w fun e w'=>StepA (Goes i (g+1) (dF m c)) w i v e w':=by
 rw[LC f];have b:=a.may d;refine Gq _ i v c w h f (fun p n=>(uc i v p n a.ok b.c0 b.t1 b.gen).mono fun e w' k=> ?_);obtain⟨j,q,o,l⟩:=k;exact⟨0,_,_,j,l,rfl,rfl,log,a.sync d o⟩
theorem LV (h:al w i v) (f:i.rv= .pointer none) (a:aS v m log g) (l:g<1152921504606846976) (j:dU) (n:c.kind=6):Calls prog 9 #[.pointer (some ⟨i.vb,0,none⟩),c.v] w fun e w'=>StepA (Goes i (g+1) (dF m c)) w i v e w':=by
 rw[LF n];refine Gt _ i v c w h n (fun o k=>(zv i v m.b c.epoch c.time o k f (a.may l) j).mono fun e w' d=> ?_);unfold nE at d;rw[a.closedE]at d;exact d.step k a (fun _ hp=>hp.step k a l (show¬(2:Int)=5 by decide) (show¬(2:Int)=1 by decide))
theorem LW (h:al w i v) (f:i.rv= .pointer none) (a:aS v m log g) (l:g<1152921504606846976) (j:dU) (hn:Sz c.name.size) (n:c.kind=7):Calls prog 9 #[.pointer (some ⟨i.vb,0,none⟩),c.v] w fun e w'=>StepA (Goes i (g+1) (dF m c)) w i v e w':=by
 rw[LG n];refine Gu _ i v c w h n (fun o k=>(DR i v m.b c.epoch c.name o k f (a.may l) j hn).mono fun e w' d=> ?_);unfold qV at d;rw[a.closedE]at d;exact d.step k a (fun _ hp=>hp.step k a l (show¬(3:Int)=5 by decide) (show¬(3:Int)=1 by decide))
theorem LX (h:al w i v) (d:i.rv= .pointer none) (a:aS v m log g) (k:g<1152921504606846976) (f:dU) (hn:Sz c.name.size) (n:c.kind=8):Calls prog 9 #[.pointer (some ⟨i.vb,0,none⟩),c.v] w fun e w'=>StepA (Goes i (g+1) (dF m c)) w i v e w':=by
 rw[LH n];refine Gv _ i v c w h n (fun o j=>(xM i v m.b c.name o j d (a.may k) f hn).mono fun e w' l=> ?_);unfold vf at l;exact l.step j a (fun _ hp=>hp.step j a k (show¬(4:Int)=5 by decide) (show¬(4:Int)=1 by decide))
theorem LY (h:al w i v) (f:i.rv= .pointer none) (a:aS v m log g) (l:g<1152921504606846976) (j:dU) (o:c.kind=9):Calls prog 9 #[.pointer (some ⟨i.vb,0,none⟩),c.v] w fun e w'=>StepA (Goes i (g+1) (dF m c)) w i v e w':=by
 rw[LI o];refine Gw _ i v c w h o (fun p k=>(BU i v m.b c.epoch (log.map LE.ent) p k f (a.may l) j (by rw[List.length_map];exact a.lenv.symm) a.ent).mono fun e w' n=> ?_);rw[a.closedE]at n;refine n.step k a (fun d hp=>hp.step k a l ?_);unfold gA at d
 split at d
 ·cases d
 ·split at d
  ·cases d
  ·omega
theorem LZ (h:al w i v) (b:aS v m log g) (q:c.kind=1):Calls prog 9 #[.pointer (some ⟨i.vb,0,none⟩),c.v] w fun e w'=>StepA (Goes i (g+1) (dF m c)) w i v e w':=by
 rw[LA q];have n:eE v c.lba c.data=(if iP m c.lba=0 then(if 4000<(c.data.size:Int)then 2 else if bX m.geo m.used=0 then 5 else 0)else iP m c.lba):=by unfold eE;rw[b.placeE,b.roomE]
 rw[←n];refine Gp _ i v c w h q (fun s o=> ?_)
 by_cases j:eE v c.lba c.data=0
 ·have a:=j
  unfold eE at a
  by_cases hp:iq v c.lba=0
  ·rw[if_pos hp]at a
   by_cases p:4000<(c.data.size:Int)
   ·rw[if_pos p]at a;cases a
   ·rw[if_neg p]at a
    by_cases r:bX v.last.geo v.used=0
    ·rw[if_pos r]at a;cases a
    ·have hu:=vz b.ok r
     have hl:0≤c.lba∧c.lba<v.last.geo.lbas:=by
      unfold iq at hp
      split at hp
      ·cases hp
      ·omega
     have d:=b.is.asks c.lba v.epoch;rw[←b.lenv]at d
     refine(xN i v c.lba c.data s o b.ok hu hl.1 hl.2 (by omega) b.data (by rw[b.epoch];have:=b.e0;have:=b.f0;omega) (by rw[b.epoch];exact b.e1) (by have:=b.vlen;omega) d.1 d.2).mono fun e w' f=> ?_
     obtain⟨u,z,xv,t,k,y,x,hc,l⟩:=f;rw[show gB (eE v c.lba c.data) m (0,m.writeA c.lba c.data)=(0,m.writeA c.lba c.data)from if_pos j];exact⟨0,_,_,u,l,rfl,rfl,_,(b.write hl.1 (by rw[←b.geo];exact hl.2) hu y x hc).mono (by omega)⟩
  ·rw[if_neg hp]at a;exact absurd a hp
 ·refine(xO i v c.lba c.data s o b.ok j).mono fun e w' f=> ?_
  rw[show gB (eE v c.lba c.data) m (0,m.writeA c.lba c.data)=(eE v c.lba c.data,m)from if_neg j,f.1];exact stays o b f.2 rfl
end
theorem aS.epochC {v:ai} {m:AM} {log:List LE} {g:Int} (h:aS v m log g) (ep:Int):Gj v ep (cellsOf log v.vers ep):=by
 have e:=lQ h.is.sort ep v.vers.length (Nat.le_refl _);rw[List.take_of_length_le (Nat.le_refl _)]at e
 have i:∀x∈bH v.vers ep,∃(k:Nat) (y:AV) (d:ak),x=⟨y.lba,y.epoch,(k:Int)⟩∧log[k]?=some (.cell y d)∧cellAt log x=d:=fun x n=>by
  obtain⟨_,t,_,D⟩:=e.2 x n;obtain⟨k,y,d,f,l⟩:=h.is.vin t x D;refine⟨k,y,d,f,l, ?_⟩;unfold cellAt;rw[f];simp only[Int.toNat_natCast,l]
 refine⟨by unfold cellsOf;simp,fun j x c n hc=> ?_,fun j k a b o hb p=> ?_⟩
 ·obtain⟨k,y,d,f,l,hd⟩:=i x (List.mem_iff_getElem?.2 ⟨j,n⟩)
  unfold cellsOf at hc;rw[List.getElem?_map,n]at hc;simp only[Option.map_some,Option.some.injEq]at hc;rw[←hc,hd];refine⟨k,by rw[f],by rw[h.lenv];have:=(List.getElem?_eq_some_iff.1 l).1;omega,h.ent k (.cell d) (by rw[List.getElem?_map,l];rfl)⟩
 ·unfold cellsOf at o hb
  rw[List.getElem?_map,Option.map_eq_some_iff]at o hb;obtain⟨x,n,rfl⟩:=o;obtain⟨z,s,rfl⟩:=hb;obtain⟨E,K,u,A,G,I⟩:=i x (List.mem_iff_getElem?.2 ⟨j,n⟩);obtain⟨F,L,w,B,H,J⟩:=i z (List.mem_iff_getElem?.2 ⟨k,s⟩);obtain⟨C,q⟩:=List.getElem?_eq_some_iff.1 n;obtain⟨l,r⟩:=List.getElem?_eq_some_iff.1 s;have hp:=List.pairwise_iff_getElem.1 e.1 j k C l p;rw[q,r,A,B]at hp;rw[I,J,(h.is.fit E K u G).lba,(h.is.fit F L w H).lba];simp only at hp;omega
theorem L0 {w:World} {i:ap} {v:ai} {m:AM} {log:List LE} {g:Int} {c:aG} (h:al w i v) (o:i.rv= .pointer none) (a:aS v m log g) (B:g<1152921504606846976) (C:c.kind=5):Calls prog 9 #[.pointer (some ⟨i.vb,0,none⟩),c.v] w fun e w'=>StepA (Goes i (g+1) (dF m c)) w i v e w':=by
 rw[LD C];refine Gs _ i v c w h C (fun H r=> ?_)
 by_cases d:4294967295≤m.epoch∨¬m.used<m.geo.blocks-4
 ·rw[if_pos d]
  refine(xY i v H r a.ok (by rw[a.epoch,a.used,a.geo];exact d)).mono fun e w' l=> ?_
  exact⟨bJ.zero,6,i,v,l.1,(aJ.refl r).below l.2,rfl,rfl,log,a.mono (by omega)⟩
 ·rw[if_neg d]
  have y:m.epoch<4294967295:=by omega
  have z:m.used<m.geo.blocks-4:=by omega
  have k:=a.close B y z;have f:=IJ i v (cellsOf log v.vers v.epoch) a.ok k.e0 (by have:=k.e1;omega) (by have:=a.vlen;omega) (a.epochC v.epoch)
  refine(mX i v _ _ H r o k f).mono fun e w' l=> ?_
  obtain⟨s,t,K,L,kb,q,nb,sv,F,G,u,E,x,J,n,A,p⟩:=l;have j:s.size=32:=by rw[F.size,f.len]
  rw[Ed k f.n0 f.n1 j (by rw[G.size,di])]at A;refine⟨_,0,_,_,A,p,rfl,rfl,log++[.held (eW (aE v ((cellsOf log v.vers v.epoch).length:Int) s) t)], ?_⟩;have D:=a.closed B y z f.n0 f.n1 (nb:=nb) (q:=q) (kb:=kb) j (by rw[←a.epoch];exact F) (by rw[←a.epoch]) E G u (by rw[E.size,gK]) x J n;have hb:m.b.app (aE v ((cellsOf log v.vers v.epoch).length:Int) s)=m.b:=xa rfl
  have I:{m.put (aE v ((cellsOf log v.vers v.epoch).length:Int) s)with epoch:=m.epoch+1}=m.closeA:=by
   unfold AM.put AM.closeA;rw[hb]
  rw[I]at D;exact D
def readA (m:AM) (lba ep:Int):Int×ByteArray:=
 if iP m lba=0 then
  (if ep<m.geo.first∨m.epoch<ep then(7,⟨#[]⟩)else
   match jO m.L lba m.geo.first ep with
   |none=>(7,⟨#[]⟩)
   |some x=>if m.b.gone x.epoch=true then(13,⟨#[]⟩)else(0,x.data))
 else(iP m lba,⟨#[]⟩)
def ri (m:AM):List Value:=[.int .i64 m.epoch, .int .i64 m.clock, .int .i64 (bX m.geo m.used), .int .i64 m.nrec, .int .i64 ((vu m.L m.geo.lbas m.geo.first:Nat):Int), .int .i64 (m.b.holds.length:Int)]
theorem aS.cellLe {v:ai} {m:AM} {log:List LE} {g:Int} (h:aS v m log g):∀(k:Nat) x c,log[k]?=some (LE.cell x c)→j9 v k c∧m.geo.first≤x.epoch∧x.epoch≤4294967295∧0≤x.lba∧x.lba<m.geo.lbas:=fun k x c j=>by
 have a:j9 v k c:=h.ent k (.cell c) (by rw[List.getElem?_map,j];rfl);have b:=h.is.fit k x c j;have d:=a.e0;have e:=a.ok.e1;have f:=a.ok.l0;have i:=a.lba;rw[h.first,b.epoch]at d;rw[b.epoch]at e;rw[b.lba]at f;rw[b.lba,h.geo]at i;exact⟨a,d,e,f,i⟩
theorem qA {w:World} {i:ap} {v:ai} {m:AM} {log:List LE} {g:Int} (h:al w i v) (d:aS v m log g) (lba ep:Int):
  Calls prog 26 #[.pointer (some ⟨i.vb,0,none⟩), .int .i64 lba, .int .i64 ep] w fun e w'=>gy (fun r k=>k=(readA m lba ep).1∧r=(readA m lba ep).2) w e w':=by
 have l:=II d.is lba ep;obtain⟨n,hn⟩:=wO lba ep v.vers l;have q:=BV d.is (lba:=lba) (fr:=m.geo.first) (fun k x c s=>(d.cellLe k x c s).2.1) hn;rw[←d.L]at q
 have R:0≤(iM (cj v.vers lba n)).epoch∧(iM (cj v.vers lba n)).epoch≤4294967295:=by
  rcases q with⟨f,_⟩|⟨k,x,c,s,f,_⟩
  ·rw[f];exact⟨by decide,by decide⟩
  ·rw[f]
   have:=d.cellLe k x c s
   have P:=d.f0
   show 0≤x.epoch∧x.epoch≤4294967295
   omega
 have J:fA v m.b lba ep (cj v.vers lba n)=(readA m lba ep).1:=by
  unfold fA readA;rw[d.placeE,d.geo,d.epoch]
  by_cases hp:iP m lba=0
  ·rw[if_pos hp,if_pos hp]
   by_cases A:ep<m.geo.first∨m.epoch<ep
   ·rw[if_pos (A.elim .inl (fun z=> .inr (.inl z))),if_pos A]
   ·rw[if_neg A]
    rcases q with⟨f,o⟩|⟨k,x,c,s,f,o,_⟩
    ·rw[f,o,if_pos (.inr (.inr rfl))]
    ·rw[f,o,if_neg (fun z=>z.elim (fun M=>A (.inl M)) (fun M=>M.elim (fun N=>A (.inr N)) (fun N=>by cases N)))]
     show(if m.b.gone x.epoch=true then 13 else 0)= _
     by_cases y:m.b.gone x.epoch=true
     ·rw[if_pos y];simp only[y,if_true]
     ·rw[if_neg y];simp only[y];rfl
  ·rw[if_neg hp,if_neg hp]
 have C:∀{j:Int},fA v m.b lba ep (cj v.vers lba n)=j→j≠0→(readA m lba ep).2=⟨#[]⟩:=fun{j} p hj=>by
  rw[J]at p;unfold readA at p ⊢
  split
  ·split
   ·rfl
   ·split
    ·rfl
    ·split
     ·rfl
     ·rename_i f o xo x S T
      rw[if_pos f,if_neg o,S]at p;simp only[T]at p;exact absurd p.symm hj
  ·rfl
 refine(zy i v m.b lba ep n (readA m lba ep).2.data.toList w h d.maps (by have:=d.vlen;omega) l hn R (fun a Y X=> ?_)).mono fun e w' z=> ?_
 ·rw[J]at a
  rcases q with⟨f,o⟩|⟨k,x,c,s,f,o,S,T⟩
  ·exfalso
   unfold readA at a;rw[o]at a
   split at a
   ·split at a<;>cases a
   ·rename_i hp;exact hp a
  ·have E:m.b.gone x.epoch=false∧(readA m lba ep).2=x.data:=by
    unfold readA at a ⊢;rw[o]at a ⊢
    split at a
    ·rename_i hp
     split at a
     ·cases a
     ·rename_i A
      simp only at a ⊢
      split at a
      ·cases a
      ·rename_i y
       rw[if_pos hp,if_neg A,if_neg y];exact⟨by simpa using y,rfl⟩
    ·rename_i hp;exact absurd a hp
   obtain⟨B,Z,a2,a3,a4⟩:=d.cellLe k x c s;have I:=d.is.fit k x c s;have u:c.gone=false:=by rw[I.gone];exact E.1
   have G:=I.txt u;have P:=d.f0;obtain⟨H,D⟩:∃H:Nat,x.epoch=(H:Int):=⟨x.epoch.toNat,by omega⟩
   have O:c=⟨(H:Int),(k:Int),c.lba,false,c.cipher⟩:=by
    obtain⟨U,cs,cl,cg,cc⟩:=c;simp only at u;have V:U=x.epoch:=I.epoch;have W:cs=(k:Int):=I.slot;subst u V W;rw[D]
   have F:=B.ok;have t:=B.txt;rw[O]at F t;have Q:c.cipher.size=x.data.size:=by rw[G.size,fe];rfl
   rw[f]
   refine(tI i v (iM (some ⟨lba,x.epoch,(k:Int)⟩)) H k c.lba c.cipher Y X d.ok d.data rfl (by rw[d.lenv];have:=(List.getElem?_eq_some_iff.1 s).1;omega) (by omega) F t).mono fun e w' z=> ?_
   obtain⟨⟨r,p,K⟩,hb⟩:=z;refine⟨⟨r,p, ?_⟩,hb⟩;rw[Q,show c.cipher.data.toList= _ from G,D,Int.toNat_natCast,vW]at K;rw[E.2];exact K
 ·obtain⟨hp,hb⟩:=z
  refine⟨?_,hb⟩;unfold fu at hp
  by_cases a:fA v m.b lba ep (cj v.vers lba n)=0
  ·rw[if_pos a]at hp
   obtain⟨r,p,K⟩:=hp;refine⟨r,0,p,by rw[←J,a], ?_⟩;exact ah.eq K (show ah (readA m lba ep).2 _ from rfl)
  ·rw[if_neg a]at hp
   exact⟨⟨#[]⟩,_,hp,J,(C rfl a).symm⟩
theorem CY {v:ai} {m:AM} {log:List LE} {g:Int} (a:aS v m log g):jy v m.b=ri m:=by
 unfold jy ri;rw[a.epoch,a.clock,a.roomE,a.nrec,BW a.is (fun k x c d=>(a.cellLe k x c d).2),←a.L]
def eQ (m:AM) (c:aG):List Value×AM:=
 if c.kind=2 then(gz (readA m c.lba m.epoch).1 (readA m c.lba m.epoch).2,m)
 else if c.kind=3 then(gz (readA m c.lba c.epoch).1 (readA m c.lba c.epoch).2,m)
 else if c.kind=10 then([.int .i64 0, .string ⟨#[]⟩]++ri m,m)
 else(cF (dF m c).1,(dF m c).2)
def sJ (w:World) (i:ap) (v:ai) (m:AM) (c:aG) (g:Int) (e:Ending) (w':World):Prop:=
 e= .returned (.agg (eQ m c).1.toArray)∧∃i' v' log',aJ w w' i v i' v'∧(i'.rv,i'.vb,i'.db)=(i.rv,i.vb,i.db)∧aS v' (eQ m c).2 log' (g+1)
theorem StepA.go {w w':World} {i:ap} {v:ai} {m:AM} {c:aG} {g:Int} {e:Ending} (h:StepA (Goes i (g+1) (dF m c)) w i v e w') (b:¬c.kind=2∧¬c.kind=3∧¬c.kind=10):sJ w i v m c g e w':=by
 obtain⟨k,o,p,j,n,l,d,a,f⟩:=h;have hd:eQ m c=(cF (dF m c).1,(dF m c).2):=by unfold eQ;rw[if_neg b.1,if_neg b.2.1,if_neg b.2.2]
 unfold sJ;rw[hd];exact⟨by rw[j,l],o,p,a,n,d,f⟩
theorem K0 {w:World} {i:ap} {v:ai} {m:AM} {log:List LE} {g:Int} {c:aG} (h:al w i v) (f:i.rv= .pointer none) (d:aS v m log g) (q:g<1152921504606846976) (j:dU) (hn:Sz c.name.size):
  Calls prog 9 #[.pointer (some ⟨i.vb,0,none⟩),c.v] w fun e w'=>sJ w i v m c g e w':=by
 by_cases A:c.kind=1
 ·exact(LZ h d A).mono fun e w' a=>a.go (by omega)
 by_cases s:c.kind=2
 ·have t:eQ m c=(gz (readA m c.lba m.epoch).1 (readA m c.lba m.epoch).2,m):=if_pos s
  refine(Gx _ i v c w h s (fun H z=>BZ _ i v c.lba H z (fun I hy=>by rw[d.epoch];exact qA hy d c.lba m.epoch))).mono fun e w' a=> ?_
  obtain⟨⟨r,k,o,x,y⟩,hb⟩:=a;unfold sJ;rw[t];exact⟨by rw[o,x,y],i,v,log,(aJ.refl h).below hb,rfl,d.mono (by omega)⟩
 by_cases u:c.kind=3
 ·have t:eQ m c=(gz (readA m c.lba c.epoch).1 (readA m c.lba c.epoch).2,m):=by unfold eQ;rw[if_neg s,if_pos u]
  refine(wY _ i v c w h u (fun H z=>qA z d c.lba c.epoch)).mono fun e w' a=> ?_
  obtain⟨⟨r,k,o,x,y⟩,hb⟩:=a;unfold sJ;rw[t];exact⟨by rw[o,x,y],i,v,log,(aJ.refl h).below hb,rfl,d.mono (by omega)⟩
 by_cases l:c.kind=10
 ·have t:eQ m c=([.int .i64 0, .string ⟨#[]⟩]++ri m,m):=by unfold eQ;rw[if_neg s,if_neg u,if_pos l]
  refine(uy i v m.b c w h l d.ok d.maps (by have:=d.vlen;omega) (by have:=d.nr;have:=d.used_le;omega)).mono fun e w' a=> ?_
  obtain⟨o,hb⟩:=a;unfold sJ;rw[t];exact⟨by rw[o];unfold oU;rw[CY d],i,v,log,(aJ.refl h).below hb,rfl,d.mono (by omega)⟩
 have n:¬c.kind=2∧¬c.kind=3∧¬c.kind=10:=⟨s,u,l⟩
 by_cases B:c.kind=4
 ·exact(LU h d q B).mono fun e w' a=>a.go n
 by_cases C:c.kind=5
 ·exact(L0 h f d q C).mono fun e w' a=>a.go n
 by_cases D:c.kind=6
 ·exact(LV h f d q j D).mono fun e w' a=>a.go n
 by_cases E:c.kind=7
 ·exact(LW h f d q j hn E).mono fun e w' a=>a.go n
 by_cases F:c.kind=8
 ·exact(LX h f d q j hn F).mono fun e w' a=>a.go n
 by_cases G:c.kind=9
 ·exact(LY h f d q j G).mono fun e w' a=>a.go n
 by_cases p:c.kind=11
 ·exact(LJ h d p).mono fun e w' a=>a.go n
 ·have o:dF m c=(2,m):=by unfold dF;rw[if_neg A,if_neg B,if_neg C,if_neg D,if_neg E,if_neg F,if_neg G,if_neg p]
  refine(Eg i v c w h ⟨A,s,u,B,C,D,E,F,G,l,p⟩).mono fun e w' a=> ?_
  refine StepA.go ⟨2,i,v,a.1,(aJ.refl h).below a.2, ?_⟩ n;rw[o];exact⟨rfl,rfl,log,d.mono (by omega)⟩
theorem GE (n:Nat) (v:Value) (i:Nat) (kb q:ByteArray):Calm (bz n v i kb q) n 0:=
 ⟨rfl,rfl,by show(((List.replicate n bT).set i kb).set 1 q).length=n;simp,fun j p a=>by simp[bz]at a,Nat.le_refl _⟩
theorem IQ {n ep:Nat} {a:Int} (f:cA ⟨(n:Int),a,(ep:Int)⟩) (key c:ByteArray) (b:Value) {kb q:ByteArray} (g:ah kb (ew (ep:Int) key.data.toList)) (h:ah q (cG ⟨1,0,ep,0,⟨(n:Int),a,(ep:Int)⟩⟩)):eJ (cH key c 1 0 n a ep ep (bz n b (2+ep % 2) kb q)):=by
 have m:8≤n:=by have:=f.b0;simp only at this;omega
 refine⟨?_, .inl ⟨rfl,fX n b (2+ep % 2) 0 kb q (by omega) (by omega) (by omega)⟩, ?_, ?_,fun k d e=> ?_⟩
 ·show ah ((bz n b (2+ep % 2) kb q).shown 1) _
  rw[rx n b (2+ep % 2) kb q (by omega)];exact h
 ·show ah ((bz n b (2+ep % 2) kb q).shown (2+(ep:Int) % 2)) _
  rw[show(2+(ep:Int) % 2)=((2+ep % 2:Nat):Int) by omega,nt n b (2+ep % 2) kb q (by omega) (by omega)];exact g
 ·show(bz n b (2+ep % 2) kb q).shown (2+((ep:Int)+1) % 2)= _
  rw[show(2+((ep:Int)+1) % 2)=((2+(ep+1) % 2:Nat):Int) by omega];exact fX n b (2+ep % 2) (2+(ep+1) % 2) kb q (by omega) (by omega) (by omega)
 ·have i:0≤k:=d
  have l:k<(n:Int)-4:=e;obtain⟨j,rfl⟩:∃j:Nat,k=(j:Int):=⟨k.toNat,by omega⟩
  show(bz n b (2+ep % 2) kb q).shown (4+(j:Int))= _
  rw[show(4+(j:Int))=((4+j:Nat):Int) by omega];exact fX n b (2+ep % 2) (4+j) kb q (by omega) (by omega) (by omega)
theorem aS.first_state {n ep:Nat} {a:Int} (c:cA ⟨(n:Int),a,(ep:Int)⟩) {key data root:ByteArray} (i:root.size=32) (l:ah key (C3 root.data.toList ep 0)) (h:key.size=32) (hd:data.size=16) (g:Value) {kb q:ByteArray} (f:ah kb (ew (ep:Int) key.data.toList)) (m:ah q (cG ⟨1,0,ep,0,⟨(n:Int),a,(ep:Int)⟩⟩)):
  aS (cH key data 1 0 n a ep ep (bz n g (2+ep % 2) kb q)) (AM.new ⟨(n:Int),a,(ep:Int)⟩ root) [] 1 where
 ok:=⟨⟨c,by show(1:Int)≤1;omega,by show(1:Int)≤1152921504606846976;omega,by show(0:Int)≤0;omega,by show(0:Int)≤(n:Int)-4;have:=c.b0;simp only at this;omega,by show(ep:Int)≤(ep:Int);omega,by have:=c.f1;exact this,by show(0:Int)≤0;omega,by show(0:Int)≤1099511627776;omega⟩,by show(0:Int)≤0;omega,by show(0:Int)≤(n:Int)-4;have:=c.b0;simp only at this;omega,(GE n g (2+ep % 2) kb q).mono (Nat.zero_le _)⟩
 key:=h
 data:=hd
 geo:=rfl
 first:=rfl
 used:=rfl
 epoch:=rfl
 clock:=rfl
 now:=rfl
 e0:=Int.le_refl _
 e1:=by have:=c.f1;show(ep:Int)≤4294967295;simp only at this;omega
 le:=rfl
 nrec:=rfl
 tame:=fun j y hy=>by simp[cH]at hy
 last:=by show(⟨(List.replicate 32 (0:UInt8)).toArray⟩:ByteArray).size=32;rfl
 c0:=Int.le_refl _
 t0:=Int.le_refl _
 t1:=Int.le_refl _
 t2:=by show(0:Int)≤1099511627776;omega
 gen:=Int.le_refl _
 maps:=br.zero
 n:=Nat.le_refl _
 nr:=Nat.le_refl _
 lenG:=rfl
 ent:=fun k e d=>by simp at d
 is:=bY.nil _ _
 L:=rfl
 vl:=rfl
 gone:=fun e d=>by cases d
 chain:=⟨i,by show(0:Int)≤(ep:Int);omega,Int.le_refl _,by show key.data.toList=C3 root.data.toList (ep:Int).toNat ((ep:Int).toNat-(ep:Int).toNat);rw[Int.toNat_natCast,Nat.sub_self];exact l,rfl,rfl,fun k x b=>by simp[cH]at b⟩
 roots:=⟨fun k x b=>by simp[cH]at b,fun k x b=>by simp[cH]at b,fun k x b=>by simp[cH]at b⟩
 rep:=Rep.nil _
 img:=IQ c key data g f m
theorem GF (w:World):(zeroValue 36).run prog w= .ok (.agg (aG.cells ⟨0,0,0,0,⟨#[]⟩,⟨#[]⟩,none,0,0⟩).toArray) w:=by kernel_rfl
theorem af.belowAll {S:List Nat} {B:Nat} {w0 w w':World} (t:af S w w') (hb:Below B w0 w) (d:B≤w.heap.size) (a:∀x,x∈S→B≤x):Below B w0 w':=
 ⟨by rw[t.os,hb.os],by rw[t.tape,hb.tape],by rw[t.output,hb.output],Nat.le_trans hb.size t.size,fun k b=>by
  rw[t.block k (by omega) (fun c=>by have:=a k c;omega),hb.block k b]⟩
theorem J6 (m:AM) (c:aG):(eQ m c).2.geo=m.geo∧(eQ m c).2.root=m.root:=by
 have b:∀r,(m.seal r).2.geo=m.geo∧(m.seal r).2.root=m.root:=fun r=>by
  unfold AM.seal
  split
  ·split
   ·exact⟨rfl,rfl⟩
   ·exact⟨rfl,rfl⟩
  ·exact⟨rfl,rfl⟩
 have a:∀q (s:Int×AM),s.2.geo=m.geo∧s.2.root=m.root→(gB q m s).2.geo=m.geo∧(gB q m s).2.root=m.root:=fun q s h=>by
  unfold gB
  split
  ·exact h
  ·exact⟨rfl,rfl⟩
 unfold eQ
 split
 ·exact⟨rfl,rfl⟩
 split
 ·exact⟨rfl,rfl⟩
 split
 ·exact⟨rfl,rfl⟩
 unfold dF
 split
 ·exact a _ _ ⟨rfl,rfl⟩
 split
 ·exact⟨rfl,rfl⟩
 split
 ·split<;>exact⟨rfl,rfl⟩
 split
 ·exact a _ _ (b _)
 split
 ·exact a _ _ (b _)
 split
 ·exact a _ _ (b _)
 split
 ·exact a _ _ (b _)
 split
 ·exact a _ _ ⟨rfl,rfl⟩
 ·exact⟨rfl,rfl⟩
structure mG (w0:World) (i:ap) (v:ai) (m:AM) (log:List LE) (g:Int) (wx:World):Prop where
 vol:al wx i v
 rv:i.rv= .pointer none
 is:aS v m log g
 foot:∀x,x∈i.foot v.d→w0.heap.size≤x
 bel:Below w0.heap.size w0 wx
theorem mG.below {w0:World} {i:ap} {v:ai} {m:AM} {log:List LE} {g:Int} {a wy:World} (h:mG w0 i v m log g a) (hb:Below a.heap.size a wy):mG w0 i v m log g wy:=
 ⟨h.vol.below hb,h.rv,h.is,h.foot,h.bel.trans (hb.mono h.bel.size)⟩
theorem mG.next {w0:World} {i:ap} {v:ai} {m:AM} {log:List LE} {g:Int} {c:aG} {e:Ending} {k l:World} (h:mG w0 i v m log g k) (hd:sJ k i v m c g e l):(∃r,e= .returned r)∧∃d j a,mG w0 d j (eQ m c).2 a (g+1) l∧d.vb=i.vb∧d.db=i.db:=by
 obtain⟨p,d,j,a,f,b,o⟩:=hd;have n:d.rv=i.rv:=congrArg Prod.fst b;exact⟨⟨_,p⟩,d,j,a,⟨f.at',by rw[n];exact h.rv,o,fun x t=>(f.foot x t).elim (h.foot x) (fun s=>Nat.le_trans h.bel.size s),f.turned.belowAll h.bel h.bel.size h.foot⟩,congrArg (fun q=>q.2.1) b,congrArg (fun q=>q.2.2) b⟩
theorem sK {b:ByteArray} {l:List UInt8} {c:UInt8} (e:ah b l) (hc:l.head?=some c) (f:0<b.size):(b[0].toNat:Int)=(c.toNat:Int):=by
 have a:b.data.toList.head?=some c:=by rw[show b.data.toList=l from e];exact hc
 have d:b[0]=c:=by
  rw[List.head?_eq_getElem?]at a
  exact(List.getElem?_eq_some_iff.1 a).2
 rw[d]
theorem Eh (s:List UInt8):(holdL s).head?=some 3:=by simp[holdL,fa]
theorem Ei (c:ak):(cellL c).head?=some 1∨(cellL c).head?=some 2:=by
 have a:(cellL c).head?=(beBytes 1 (bF c).toNat).head?:=by
  have hl:(beBytes 1 (bF c).toNat).length=1:=beBytes_length _ _;unfold cellL fa dd dp;obtain⟨x,b⟩:=List.length_eq_one_iff.1 hl;simp[da,b]
 rw[a]
 rcases kM c with h2|h2<;>rw[h2]
 ·exact .inl (by decide)
 ·exact .inr (by decide)
def oq (block:ByteArray):fx→Prop
 | .cell c=>bh c∧ah block (cellL c)
 | .held s=>1≤s.size∧s.size≤4000∧ah block (holdL s.data.toList)
theorem eA.bytes {v:ai} {k:Nat} {e:fx} (h:eA v k e):oq (v.d.shown (4+(k:Int))) e:=by
 cases e with
 |cell c=>exact⟨h.ok,h.txt⟩
 |held s=>exact⟨h.n0,h.n1,h.txt⟩
theorem rP (c:ak) (a:ByteArray) (w:World) (hc:bh c) (b:ah a (cellL c)):
  Calls prog 259 #[.string a] w fun e w'=>e= .returned (.tuple #[.string ⟨#[]⟩, .int .i64 3])∧Below w.heap.size w w':=by
 have g:a.size=4096:=by rw[b.size,fm c hc.n]
 have f:(a.size:Int)=4096:=by omega
 have d:0<a.size:=by omega
 have i:¬(a[0].toNat:Int)=3:=by
  rcases Ei c with h|h
  ·rw[sK b h d];decide
  ·rw[sK b h d];decide
 clear b hc;go_enter func259,ntmps259;go_wp2_with fail;go_ret2;exact⟨rfl,Below.refl _ _⟩
theorem qB (s block:ByteArray) (w:World) (o:1≤s.size) (l:s.size≤4000) (j:ah block (holdL s.data.toList)):
  Calls prog 259 #[.string block] w fun e w'=>e= .returned (.tuple #[.string s, .int .i64 0])∧Below w.heap.size w w':=by
 have v:block.size=4096:=by rw[j.size,gh _ l]
 have u:(block.size:Int)=4096:=by omega
 have r:0<block.size:=by omega
 have x:(block[0].toNat:Int)=3:=sK j (Eh _) r;have n:=hid (And.intro o l);have q:=hid j
 have d:=hid (show ∃z,eZ (block.extract 1 4096).data.toList=some (s.data.toList,z)from by
  obtain⟨z,k⟩:∃z,holdL s.data.toList=3::(cq s.data.toList++z):=⟨_,by unfold holdL fa;rw[List.append_assoc,List.singleton_append]⟩;have c:ah (block.extract 1 4096) (cq s.data.toList++z):=(j.extract 1 4096).cast (by rw[List.take_of_length_le (by rw[gh _ l];exact Nat.le_refl _),k,List.drop_succ_cons,List.drop_zero]);refine⟨z, ?_⟩;rw[show(block.extract 1 4096).data.toList= _ from c,jQ (by rw[show s.data.toList.length=s.size from rfl];omega)])
 clear j o l;go_enter func259,ntmps259;go_wp2_with fail
 refine(mN (block.extract 1 4096) _).mono ?_
 rintro e y ⟨t,g⟩;have f:=hid g;clear g
 rcases t with⟨a,b,s1,s2,c,rfl,tx,ty⟩|⟨c,rfl⟩
 case inr=>exact absurd c (by obtain⟨z,k⟩:=d.out;rw[k];exact fun h=>by cases h)
 obtain rfl:s1=s:=by
  obtain⟨z,k⟩:=d.out;rw[k]at c
  injection c with c
  injection c with c _
  exact(show ah s1 s.data.toList from by rw[c];exact tx).eq (ah.self s)
 clear c tx ty;go_wp2_with fail
 refine(hold_walk s1 _ n.out.1 n.out.2).mono ?_
 rintro e A ⟨⟨z,rfl,p⟩,i⟩;have m:=hid (f.trans (i.mono f.size));obtain rfl:z=block:=p.eq q.out;clear i p;go_wp2_with fail;go_ret2;exact⟨rfl,m.out⟩
def Ej:fx→Int
 | .cell c=>if c.gone=true then 2 else 1
 | .held _=>3
theorem Ek (x:fx) (a:ByteArray) (w:World) (h:oq a x):Calls prog 139 #[.string a] w fun e w'=>e=x.taken∧Below w.heap.size w w':=by
 cases x with
 |cell c=>exact ll c a w h.2 h.1
 |held s=>
  refine(jD a w (by rw[h.2.2.size,gh _ h.2.1])).mono fun e w' b=>⟨?_,b.2⟩
  rcases b.1 with⟨d,hd,td,_⟩|⟨_,he⟩
  ·exact(px td h.2.2).elim
  ·exact he
theorem Em (x:fx) (a:ByteArray) (w:World) (h:oq a x):
  Calls prog 202 #[.string a] w fun e w'=>e= .returned (.int .i64 (Ej x))∧Below w.heap.size w w':=by
 have C:=hid (fun(F:World)=>Ek x a F h);have q:=hid h;clear h;go_enter func202,ntmps202;go_wp2_with fail
 refine(C.out _).mono ?_
 rintro e r ⟨rfl,u⟩;have g:=hid u;clear u
 cases x with
 |cell c=>
  obtain⟨ep,z,lb,D,y⟩:=c
  dsimp only[fx.taken]
  cases D with
  |true=>
   go_wp2_with (first
    |((with_reducible refine ab 134 _ zeroCell (some 3) ?hgd ?ho ?hd ?_);(case hgd|ho|hd=>rfl);(intro t A l m n v))
    |((with_reducible refine aa 134 (.tmp 3) (.tmp 10) t cC (ak.cells ⟨ep,z,lb,true,y⟩) 134 m rfl aX (bZ _) ?hgd ?ho ?hx ?hy ?_);(case hgd|ho|hx|hy=>rfl);(intro w3 p o))
    |fail)
   have f:Below r.heap.size r w3:=o.below (n.mono l) l;have j:=hid p;have d:=hid (g.trans (f.mono g.size));clear m p o n l v f
   refine(rP _ a _ q.out.1 q.out.2).mono ?_
   rintro e B ⟨rfl,b⟩;have k:=hid (d.trans (b.mono d.size));have E:=(j.below b j.lt).cell (i:=3) rfl;clear b;go_wp2_with fail;go_ret;exact⟨rfl,k.out⟩
  |false=>
   go_wp2_with (first
    |((with_reducible refine ab 134 _ zeroCell (some 3) ?hgd ?ho ?hd ?_);(case hgd|ho|hd=>rfl);(intro t A l m n v))
    |((with_reducible refine aa 134 (.tmp 3) (.tmp 10) t cC (ak.cells ⟨ep,z,lb,false,y⟩) 134 m rfl aX (bZ _) ?hgd ?ho ?hx ?hy ?_);(case hgd|ho|hx|hy=>rfl);(intro w3 p o))
    |fail)
   have f:Below r.heap.size r w3:=o.below (n.mono l) l;have j:=hid p;have d:=hid (g.trans (f.mono g.size));clear m p o n l v f
   refine(rP _ a _ q.out.1 q.out.2).mono ?_
   rintro e B ⟨rfl,b⟩;have k:=hid (d.trans (b.mono d.size));have E:=(j.below b j.lt).cell (i:=3) rfl;clear b;go_wp2_with fail;go_ret;exact⟨rfl,k.out⟩
 |held s=>
  dsimp only[fx.taken]
  go_wp2_with (first
   |((with_reducible refine ab 134 _ zeroCell (some 3) ?hgd ?ho ?hd ?_);(case hgd|ho|hd=>rfl);(intro t A l m n v))
   |((with_reducible refine aa 134 (.tmp 3) (.tmp 10) t cC (ak.cells ⟨0,0,0,false,⟨#[]⟩⟩) 134 m rfl aX (bZ _) ?hgd ?ho ?hx ?hy ?_);(case hgd|ho|hx|hy=>rfl);(intro w3 p o))
   |fail)
  have f:Below r.heap.size r w3:=o.below (n.mono l) l;have d:=hid (g.trans (f.mono g.size));clear m p o n l v f
  refine(qB s a _ q.out.1 q.out.2.1 q.out.2.2).mono ?_
  rintro e B ⟨rfl,b⟩;have k:=hid (d.trans (b.mono d.size));clear b;go_wp2_with fail;go_ret;exact⟨rfl,k.out⟩
end Go.Proofs.YtadooplpfhdhcaaGreat
