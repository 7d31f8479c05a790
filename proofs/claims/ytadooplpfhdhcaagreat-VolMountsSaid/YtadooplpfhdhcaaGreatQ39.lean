/- A volume is mounted of the disk that another one left (chapter 26): it stands as that one did. The sealed records, and the secrets (chapter 26): Sealed, Secrets. Walk of Few of chapter 24 at one call. What a statement's parameters hand to its walk: a row of calls of a volume. -/
import Derived.Test.YtadooplpfhdhcaaGreatQ38
import Derived.Test.YtadooplpfhdhcaaGreatQ34
import Derived.Test.YtadooplpfhdhcaaGreatQ14
import Derived.Test.YtadooplpfhdhcaaGreatQ13
import Derived.Test.YtadooplpfhdhcaaGreatQ18
import Derived.Test.YtadooplpfhdhcaaGreatQ31
import Derived.Test.YtadooplpfhdhcaaGreatQ2
import Derived.Deep.DeepAppendWide
import Derived.Deep.RegionWith
import Derived.Deep.QuietTactic
import Derived.BigQuiet
import Derived.Test.YtadooplpfhdhcaaGreatQ7
import Derived.Test.YtadooplpfhdhcaaGreatQ22
import Derived.Test.YtadooplpfhdhcaaGreatQ5
set_option linter.unusedSimpArgs false
set_option linter.unusedVariables false
set_option maxRecDepth 100000
set_option maxHeartbeats 4000000
namespace Go.Proofs.YtadooplpfhdhcaaGreat
open Go Go.RowKit Go.Maps Go.WideMaps
open Go.Lib (hid)
open Go.Proofs.Tryz
theorem eJ.choose {v:ai} (h:eJ v) (f:bp v):∃g:Int,∀a:World,Calls prog 256 #[.string (v.d.shown 0), .string (v.d.shown 1)] a fun e w'=>e= .returned (.tuple #[v.last.v, .int .i64 g, .int .i64 0])∧Below a.heap.size a w':=by
 have i:=f.sup.g0;have c:=h.sup
 by_cases hp:v.last.gen % 2=1
 ·rw[hp]at c
  rcases h.old with⟨_,h2⟩|⟨s,h1,h2,h3⟩
  ·exact⟨1,fun a=>by rw[h2];exact nO v.last (v.d.shown 1) a c f.sup⟩
  ·rw[show(v.last.gen+1) % 2=0 by omega]at h3
   refine⟨1,fun a=> ?_⟩;have b:=m9 s v.last _ _ a h3 h1 c f.sup;rw[if_pos h2,if_pos h2]at b;exact b
 ·rw[show v.last.gen % 2=0 by omega]at c
  rcases h.old with⟨h1,_⟩|⟨s,h1,h2,h3⟩
  ·omega
  ·rw[show(v.last.gen+1) % 2=1 by omega]at h3
   refine⟨0,fun a=> ?_⟩;have b:=m9 v.last s _ _ a c f.sup h3 h1;rw[if_neg (by omega),if_neg (by omega)]at b;exact b
theorem jP.lastTake {root:ByteArray} {first a now:Int} {key:List UInt8} {l:List aD} (h:jP root first a now key l):∀k,k≤l.length→(bO (l.take k)).data.toList=lu root.data.toList first.toNat (l.map aD.r) k
 |0,_=>by simp[bO,lu]
 |k+1,hk=>by
  have b:l[k]?=some l[k]:=List.getElem?_eq_getElem (by omega);rw[List.take_succ_eq_append_getElem (by omega),nK];exact h.tags k _ b
theorem aS.mountOk {v:ai} {m:AM} {log:List LE} {g:Int} (h:aS v m log g) (hc:v.last.clock=v.clock) (w:List ByteArray):CZ v.key v.last.clock v.last.geo.lbas v.last.geo.first v.last.epoch w log ⟨m.epoch,m.now,m.b,v.sealed,v.vers⟩:=by
 have E:=h.nr;have F:=h.used_le;have A:=h.chain.follow;obtain⟨_,_,q⟩:=wV (v.sealed.map aD.r) m.geo.first 0 0 (by rw[A]);have i:∀(k:Nat) (x:aD),v.sealed[k]?=some x→aI x.r=true:=fun k x n=>(q.each k x.r (by rw[List.getElem?_map,n];rfl)).1
 refine⟨h.key,by show m.epoch=v.last.epoch;rw[h.le,h.epoch],by show m.now≤v.last.clock;rw[hc,h.clock];exact h.t1,by show v.sealed.length≤1048576;omega,fun k x n=> ?_,fun k x n z=> ?_,fun k c D=> ?_⟩
 ·have a:v.sealed[k]?=some x:=n
  have p:=(List.getElem?_eq_some_iff.1 a).1;have u:=i k x a;have B:=dh u
  have s:(bO (v.sealed.take k)).size=32:=by
   have e:=h.chain.lastTake k (by omega);have t:=IK (root:=m.root.data.toList) (f:=m.geo.first.toNat) (l:=v.sealed.map aD.r) (k:=k) (by rw[List.length_map];omega);rw[←e]at t;exact t
  exact⟨⟨s,by omega,by omega,u⟩,by omega,by omega,by unfold Fits;omega,by unfold Fits;omega⟩
 ·have a:v.sealed[k]?=some x:=n
  have p:=(List.getElem?_eq_some_iff.1 a).1;have e:=h.chain.tags k x a;rw[oj (r:=x.r) (by rw[List.getElem?_map,a];rfl),←h.chain.lastTake k (by omega)]at e;have o:x.r.epoch=m.epoch:=by rw[z,h.le,h.epoch]
  rw[o,←h.chain.key]at e;exact e
 ·obtain⟨j,y,C⟩:=xi (List.mem_iff_getElem?.2 ⟨k,D⟩)
  have d:=h.is.fit j y c C
  show c.gone=m.b.gone c.epoch
  rw[d.gone,d.epoch]
theorem IX {d:am} {t k:Nat} (h:k<t):(tailV d t)[k]?=some (d.shown (4+(k:Int))):=by
 unfold tailV;rw[List.getElem?_map,List.getElem?_range h]
 rfl
theorem aS.plays {v:ai} {m:AM} {log:List LE} {g:Int} (h:aS v m log g):∃S,S log.length=⟨m.epoch,m.now,m.b,v.sealed,v.vers⟩∧gG v.last.geo.first v.last.geo.lbas log S (tailV v.d log.length):=by
 obtain⟨S,n,hl⟩:=h.rep;refine⟨S,hl,⟨pH _ _,h.used_le,by rw[h.geo];exact n,fun k e i=> ?_,fun k x c j=> ?_,⟨v.data,m.b,v.vers,h.is⟩⟩⟩
 ·have f:=(List.getElem?_eq_some_iff.1 i).1
  exact⟨_,IX f,(h.ent k e.ent (by rw[List.getElem?_map,i];rfl)).bytes⟩
 ·have a:=h.is.fit k x c j
  have l:j9 v k c:=h.ent k (.cell c) (by rw[List.getElem?_map,j];rfl);exact⟨a.slot,a.epoch,a.lba,l.lba⟩
theorem aS.maps' {v:ai} {m:AM} {log:List LE} {g:Int} (h:aS v m log g) {n:Nat} {U L G:DataW Unit} (c:br U L G m.b) (hn:n≤log.length):aS {v with n:=n,U:=U,L:=L,G:=G} m log g:=
 {h with
  ok:=⟨h.ok.sup,h.ok.u0,h.ok.u1,h.ok.calm⟩
  maps:=c
  n:=hn
  ent:=fun k e a=>(h.ent k e a).to rfl rfl (Int.le_refl _) rfl
  img:=⟨h.img.sup,h.img.old,h.img.key,h.img.bare,h.img.free⟩}
def uB (w:World) (i:ap) (v:ai) (m:AM) (log:List LE) (g:Int) (i':ap):Prop:=
 i'.rv= .pointer none∧i'.db=i.db∧∃v',al w i' v'∧aS v' m log g∧v'.sealed=v.sealed∧v'.key=v.key∧v'.data=v.data∧v'.d=v.d
theorem uC {w:World} {i:ap} {v:ai} {m:AM} {log:List LE} {g:Int} (h:al w i v) (k:aS v m log g) (ht:v.last.tail=v.used) (hc:v.last.clock=v.clock) (X:dU):
  Calls prog 13 #[.pointer (some ⟨i.db,0,none⟩), .string v.data] w fun e w'=>(∃u,e= .returned (.tuple #[.pointer (some ⟨u.vb,0,none⟩), .int .i64 0])∧uB w' i v m log g u)∧Below w.heap.size w w':=by
 obtain⟨S,B,T⟩:=k.plays;obtain⟨ci,C⟩:=k.img.choose k.ok;have O:=k.mountOk hc (tailV v.d log.length);have l:=k.ok.sup;have p:=l.geo;have h0:=p.b0;have h1:=p.b1;have f:=k.ok.calm;have bd:=k.used_le;have D:v.used=(log.length:Int):=k.used.trans k.lenG.symm;have bb:=k.ok.u1;have e0:=l.e0;have e1:=l.e1;have f0:=p.f0;obtain⟨n,hn⟩:∃n:Nat,v.last.geo.blocks=(n:Int):=⟨v.last.geo.blocks.toNat,by omega⟩;obtain⟨ep,J⟩:∃ep:Nat,v.last.epoch=(ep:Int):=⟨v.last.epoch.toNat,by omega⟩;obtain⟨⟨x,N,A,clock,⟨blocks,q,first⟩⟩,a⟩:∃s,v.last=s:=⟨_,rfl⟩;have V:blocks=(n:Int):=by rw[←hn,a]
 have W:A=(ep:Int):=by rw[←J,a]
 have Y:N=(log.length:Int):=by rw[←D,←ht,a]
 subst V W Y;have K:v.d.bs.length=n:=by have:=f.len;rw[hn]at this;simpa using this
 have cr:v.key.size=32:=k.key;have r:=k.img.key;have c:=k.img.bare;rw[J]at r c
 have z:ah (if ep % 2=0 then v.d.shown 2 else v.d.shown 3) (ew ep v.key.data.toList):=by
  by_cases hp:ep % 2=0
  ·rw[if_pos hp]
   rw[show(2+(ep:Int) % 2)=2 by omega]at r;exact r
  ·rw[if_neg hp]
   rw[show(2+(ep:Int) % 2)=3 by omega]at r;exact r
 have bA:(if ep % 2=0 then v.d.shown 3 else v.d.shown 2)=(⟨(List.replicate 4096 0).toArray⟩:ByteArray):=by
  by_cases hp:ep % 2=0
  ·rw[if_pos hp]
   rw[show(2+((ep:Int)+1) % 2)=3 by omega]at c;exact c
  ·rw[if_neg hp]
   rw[show(2+((ep:Int)+1) % 2)=2 by omega]at c;exact c
 rw[a]at l C
 have o:∀y,aC y i.db v.d→Calls prog 198 #[.pointer (some ⟨i.db,0,none⟩)] y fun e w'=>e= .returned (.tuple #[(⟨x,(log.length:Int),(ep:Int),clock,⟨(n:Int),q,first⟩⟩:aF).v, .string v.key, .int .i64 0])∧Below y.heap.size y w':=fun y hx=>
  rq i.db v.d _ ep ci v.key y hx f.up (by have:=f.few;have:=k.ok.few;omega) (by omega) (by omega) l rfl (by show(n:Int)= _;omega) C cr z
 have t:∀j,4+log.length≤j→j<n→v.d.shown (j:Int)=(⟨(List.replicate 4096 0).toArray⟩:ByteArray):=fun j a7 a8=>by
  have h9:=k.img.free ((j:Int)-4) (by omega) (by rw[hn];omega);rw[show 4+((j:Int)-4)=(j:Int) by omega]at h9;exact h9
 rw[a]at T O;rw[←B]at O;have H:=hid (Cc i.db n log.length ep x clock q first v.key v.data v.d log S w h.disk k.data l f.up (by have:=f.few;have:=k.ok.few;omega) (by omega) K t bA o X rfl T O)
 have F:=hid (fun(y:World) (u:ap) (nb:Nat) (U L G:DataW Unit) (P:u.rv= .pointer none) (Q:u.db=i.db) (R:nb≤log.length) (M:br U L G (S log.length).b) (E:al y u (rS (ot v.key v.data x clock n q first ep (log.length:Int) v.d) (S log.length) nb U L G))=>show uB y i v m log g u from by
  rw[B]at M E
  have hv:rS (ot v.key v.data x clock n q first ep (log.length:Int) v.d) ⟨m.epoch,m.now,m.b,v.sealed,v.vers⟩ nb U L G={v with n:=nb,U:=U,L:=L,G:=G}:=by
   have Z:v.first=first:=by have:=k.first;rw[←k.geo,a]at this;exact this
   have a2:v.clock=clock:=by rw[←hc,a]
   have a3:=k.epoch;have a4:=k.now;unfold rS ot
   cases v
   simp only at Z a2 a3 a4 a D ⊢;subst Z a2 a3 a4 a D
   rfl
  rw[hv]at E;exact⟨P,Q,_,E,k.maps' M R,rfl,rfl,rfl,rfl⟩)
 obtain⟨dt,I⟩:∃dt,v.data=dt:=⟨_,rfl⟩;rw[I]at H ⊢;clear B T C O l p f o t bA z k h r c;go_enter func13,ntmps13;go_wp2_with fail;refine H.mono ?_;rintro e w1 ⟨⟨u,nb,U,L,G,rfl,P,Q,R,M,E⟩,hb⟩;rw[←I]at E;have HQ:=hid (F.out _ u nb U L G P Q R M E);have HB:=hid hb;clear hb P Q R M E;go_wp2_with fail;go_ret2;exact⟨⟨u,rfl,HQ.out⟩,HB.out⟩
theorem yp (v:Value) (n:Nat) (xs:List aD) (w:World) (h:w.ownsRow 0 61 9 v n (dM xs)) (hn:n≤4096):
  Calls prog 50 #[v] w fun e w'=>(∃t,e= .returned t∧w'.ownsRow w.heap.size 61 9 t n (dM xs))∧Below w.heap.size w w':=by
 obtain⟨B,z,o,q,r⟩:=info_parts fg
 rcases h.2 with⟨rfl,rfl⟩|⟨g,cap,cur,rfl,_⟩
 ·have s:(dM xs)=([]:List Value):=List.eq_nil_of_length_eq_zero (by simpa using h.1)
  have y:=hid s;clear s h;have m:∀w,(binOp .eql 54 (.slice none 0 0) (.slice none 0 0)).run prog w= .ok (.bool true) w:=fun w=>Lib.run_eql_slice_nil w 54 61 none 0 0 0 0 underlying54
  go_enter func50,ntmps50;go_wp2_with fail;go_ret;exact⟨⟨_,rfl,by rw[y.out];exact World.ownsRow_nil _ _ _ _⟩,Below.refl _ _⟩
 ·have m:∀w,(binOp .eql 54 (.slice (some ⟨g,0,none⟩) n cap) (.slice none 0 0)).run prog w= .ok (.bool false) w:=fun w=>Lib.run_eql_slice_nil w 54 61 (some ⟨g,0,none⟩) n cap 0 0 underlying54
  have d:∀j u,(dM xs)[j]?=some u→(w.alloc (.cells #[] 61)).cell? ((⟨g,0,none⟩:Addr).add j)=some u:=fun j u hu=>(World.ownsRow.alloc h _).cells (g:=g) rfl j u hu
  have i:=hid d;have x:=hid h.1;have c:=hid (show ∀u∈(dM xs),u.oneCell'=true from Fa xs);clear h d;go_enter func50,ntmps50
  go_wp2_with (first
   |(at_builtin;refine wpList_append_own_wide _ rfl _ _ 54 rfl w.heap.size 61 B (.agg (aD.cells ⟨Rec.zero,⟨#[]⟩⟩).toArray) 9 96 underlying54 z o q r rfl (by decide) _ 0 [] rfl (World.ownsRow_lit w #[] 0 (Nat.le_refl _) (by decide) rfl) ⟨g,0,none⟩ n cap (dM xs) rfl x.out i.out c.out (by simp only[maxLen];omega) (by omega) (by simp) ?_;intro D w8 a b f)
   |fail)
  have l:Below w.heap.size w w8:=dH ((Below.refl _ _).alloc (Nat.le_refl _) _) (World.ownsRow_lit (e:=61) (size:=9) w #[] 0 (Nat.le_refl _) (by decide) rfl) b (Nat.le_refl _) (by simp);rw[Nat.zero_add,List.nil_append]at a;have k:=hid a;obtain⟨p,C,A⟩:=az a;subst A;clear a b f;go_ret;exact⟨⟨_,rfl,k.out⟩,l⟩
theorem qE (i:ap) (v:ai) (w:World) (h:al w i v) (hn:v.sealed.length≤4096):
  Calls prog 16 #[.pointer (some ⟨i.vb,0,none⟩)] w fun e w'=>(∃b,e= .returned b∧w'.ownsRow w.heap.size 61 9 b v.sealed.length (dM v.sealed))∧Below w.heap.size w w':=by
 have d:=hid h;obtain⟨f,cs,a⟩:=az h.sealed;have c:=hid a;have j:w.cell? ⟨i.vb,4,none⟩=some (.slice f v.sealed.length cs):=by rw[←a];exact h.vol.cell (i:=4) rfl
 clear h a;go_enter func16,ntmps16;go_wp2_with fail
 refine(aP i v _ d.out).mono ?_
 rintro e w' ⟨rfl,rfl⟩;go_wp2_with fail
 refine(yp (.slice f v.sealed.length cs) _ v.sealed _ (by rw[←c.out];exact d.sealed) hn).mono ?_
 rintro e k ⟨⟨b,rfl,g⟩,hb⟩;go_wp2_with fail;go_ret;exact⟨⟨b,rfl,g⟩,hb⟩
theorem lw (i:ap) (v:ai) (w:World) (h:al w i v):
  Calls prog 11 #[.pointer (some ⟨i.vb,0,none⟩)] w fun e a=>e= .returned (.tuple #[.int .i64 v.epoch, .string v.key, .string v.data])∧a=w.drew:=
 AW i.vb i.jb i.bb i.c2 i.m1 i.m2 i.m3 v.first v.epoch v.key v.data _ _ _ _ w h.vol h.book
theorem kD {c:aG}:(prog.info? 36).map (·.size)=some c.cells.length:=by kernel_rfl
theorem aG.one (c:aG):∀v∈c.cells,v.oneCell'=true:=by
 intro v a;simp only[aG.cells,List.mem_cons,List.mem_nil_iff,or_false]at a
 rcases a with rfl|rfl|rfl|rfl|rfl|rfl|rfl<;>rfl
open Go.ChangeShapes Go.WideShapes Go.Deep
def lZ (w:World) (v:Value) (l:List aG):Prop:=
 (l=[]∧∃(a:Option Addr) (cap:Nat),v= .slice a 0 cap)∨
 ∃(g o cap:Nat),v= .slice (some ⟨g,o,none⟩) l.length cap∧l.length≤cap∧g<w.heap.size∧∀(j:Nat) (x:aG),l[j]?=some x→w.rangeAt g (o+j*7) x.cells
theorem lZ.below {w a:World} {v:Value} {l:List aG} (h:lZ w v l) {B:Nat} (hb:Below B w a) (c:w.heap.size≤B):lZ a v l:=by
 rcases h with h|⟨g,o,cap,h1,h2,h3,h4⟩
 ·exact .inl h
 ·exact .inr ⟨g,o,cap,h1,h2,Nat.lt_of_lt_of_le h3 hb.size,fun j x b i u hu=>by rw[hb.cell (by show g<B;omega)];exact h4 j x b i u hu⟩
structure gY (w:World) (v:Value) (l:List aG):Prop where
 row:lZ w v l
 fits:∀(j:Nat) (x:aG),l[j]?=some x→x.kn≤9223372036854775807
 long:∀(j:Nat) (x:aG),l[j]?=some x→x.data.size≤9223372036854775807∧x.name.size≤9223372036854775807
section
variable {H:Type} {enc:TypeId×Value→H} {w:World} {base:Nat} {spare:Nat→Bool} {held:Bool}
theorem EB {a:Nat} {cs:List Value} {x:DataW H×List MemPlace} (h:DataW.trod enc prog w base spare held a 36 cs=some x):∃c:aG,cs=c.cells∧c.kn≤9223372036854775807∧c.data.size≤9223372036854775807∧c.name.size≤9223372036854775807:=by
 obtain⟨c,b,l⟩:=Gm h;obtain⟨xs,n,_,_,hl,d,k⟩:=DataW.trod_struct underlying36 h;have e:prog.cellsOf 9=1:=by kernel_rfl
 match xs,d with
 |[y0,y1,y2,y3,y4,y5,y6],_=>
  have i:DataW.trod enc prog w base spare held n 9 (List.take (prog.cellsOf 9) (List.drop 4 cs))=some y4:=k 4 _ rfl;rw[e]at i;have j:DataW.trod enc prog w base spare held n 9 (List.take (prog.cellsOf 9) (List.drop 5 cs))=some y5:=k 5 _ rfl;rw[e]at j;obtain⟨q,f,_,m⟩:=DataW.trod_string underlying9 i;obtain⟨r,g,_,o⟩:=DataW.trod_string underlying9 j;rw[b]at f g;simp[aG.cells]at f g;have p:maxLen=9223372036854775807:=rfl;exact⟨c,b,l,by rw[f];omega,by rw[g];omega⟩
theorem ED {v:Value} {d:DataW H} {Q:List MemPlace} (P:∃a z e,v= .slice a z e) (h:DataW.Trod enc prog w base spare held 24 v d Q):∃l,gY w v l:=by
 obtain⟨R,C,I,rfl⟩:=P;obtain⟨E,M⟩:=h
 rcases open_slice underlying24 M with⟨hcs,_⟩|⟨a,z,e,m,n,D,Pl,hcs,_,hl,hm,hmm,_,hi⟩
 ·simp[Value.cells]at hcs
  obtain⟨rfl,rfl,rfl⟩:=hcs;exact⟨[],⟨.inl ⟨rfl,_,_,rfl⟩,fun j x h=>by simp at h,fun j x h=>by simp at h⟩⟩
 ·simp[Value.cells]at hcs
  obtain⟨rfl,rfl,rfl⟩:=hcs;have hc:prog.cellsOf 36=7:=by kernel_rfl
  rw[hc]at hi
  by_cases K:C=0
  ·subst K
   exact⟨[],⟨.inl ⟨rfl,_,_,rfl⟩,fun j x h=>by simp at h,fun j x h=>by simp at h⟩⟩
  ·have N:C≤m:=by rw[hmm];split<;>omega
   have k:∀i,i<m→∃s:aG,(∀j u,s.cells[j]?=some u→w.cell? (a.add (i*7+j))=some u)∧s.kn≤9223372036854775807∧s.data.size≤9223372036854775807∧s.name.size≤9223372036854775807:=by
    intro i B;obtain⟨J,p,L⟩:=hi i B;obtain⟨s,F,q⟩:=EB L;refine⟨s,fun j u hu=> ?_,q⟩;obtain⟨_,r,A⟩:=World.cells?_some p;have c:=(List.getElem?_eq_some_iff.1 hu).1
    have:=A j (by rw[F]at r;omega)
    rw[Deep.add_add]at this;rw[this,F,hu]
   haveI:Inhabited aG:=⟨⟨0,0,0,0,⟨#[]⟩,⟨#[]⟩,none,0,0⟩⟩
   obtain⟨f,b⟩:=choose_lt k;obtain⟨G,O⟩:∃G,G=f 0:=⟨_,rfl⟩;have p:=(b 0 (by omega)).1 0 _ rfl;rw[Nat.zero_mul]at p;have t:=World.cell?_spot p;obtain⟨g,o,s⟩:=a;simp[Addr.add]at t;subst t;refine⟨(List.range C).map f,⟨.inr ⟨g,o,I,by simp,by simpa using hl,lt_of_cell (by simpa[Addr.add]using p),fun j x y=> ?_⟩,fun j x y=> ?_,fun j x y=> ?_⟩⟩
   ·obtain⟨c,rfl⟩:=List.getElem?_eq_some_iff.1 y
    simp at c;intro i u hu
    have:=(b j (by omega)).1 i u (by simpa using hu)
    rw[Addr.add_mid]at this;rw[Nat.add_assoc];exact this
   ·obtain⟨c,rfl⟩:=List.getElem?_eq_some_iff.1 y
    simp at c
    simpa using(b j (by omega)).2.1
   ·obtain⟨c,rfl⟩:=List.getElem?_eq_some_iff.1 y
    simp at c
    simpa using(b j (by omega)).2.2
end
theorem gY.below {w a:World} {v:Value} {l:List aG} (h:gY w v l) {B:Nat} (hb:Below B w a) (b:w.heap.size≤B):gY a v l:=⟨h.row.below hb b,h.fits,h.long⟩
theorem lZ.shape {w:World} {v:Value} {l:List aG} (h:lZ w v l):∃p b,v= .slice p l.length b∧∀(j:Nat) (x:aG),l[j]?=some x→∃g o,p=some ⟨g,o,none⟩∧g<w.heap.size∧w.rangeAt g (o+j*7) x.cells:=by
 rcases h with⟨rfl,a,b,rfl⟩|⟨g,o,b,h1,h2,h3,h4⟩
 ·exact⟨a,b,rfl,fun j x c=>by simp at c⟩
 ·exact⟨_,b,h1,fun j x c=>⟨g,o,rfl,h3,h4 j x c⟩⟩
def L1 (n:Nat) (e:Ending):Prop:=∃q:Bool,e= .returned (.bool q)∧(q=true→n≤60)
theorem Cd (v:Value) (l:List aG) (w:World) (h:gY w v l):
  Calls prog 23 #[v] w fun e w'=>L1 l.length e∧Below w.heap.size w w':=by
 obtain⟨p,S,rfl,q⟩:=h.row.shape;have R:=hid q;have P:=hid h.fits;obtain⟨L,F⟩:∃L,l.length=L:=⟨_,rfl⟩;rw[F];have Q:=hid F;clear h q F;go_enter func23,ntmps23;go_wp2_with fail;go_loopw [3,4] (fun vn M wr=>∃k m:Nat,k≤61∧M= .int .i64 k∧vn= .int .i64 m∧m≤30000*k∧k≤L∧Below w.heap.size w wr) (fun _ M _=>61-(intOf M).toNat)
 case atStart=>exact⟨0,0,by omega,rfl,rfl,by omega,by omega,Below.refl _ _⟩
 case round=>
  obtain⟨k,m,Y,rfl,rfl,hm,Z,n⟩:=hrel;have t:=hid n;clear n
  by_cases j:k<L∧k≤60
  ·obtain⟨B,C⟩:=j
   have z:(k:Int)<(L:Int):=by omega
   have G:(k:Int)≤60:=by omega
   have s:(0:Int)≤(k:Int):=by omega
   have r:decide (k<L)=true:=decide_eq_true B;have W:decide (k≤60)=true:=decide_eq_true C;obtain⟨c,hc⟩:∃c,l[k]?=some c:=⟨_,List.getElem?_eq_getElem (by have:=Q.out;omega)⟩;obtain⟨g,o,K,O,D⟩:=R.out k c hc;subst K;have f:wr.rangeAt g (o+k*7) c.cells:=fun i u hu=>by rw[t.cell (by show g<w.heap.size;exact O)];exact D i u hu
   have d4:wr.cell? ⟨g,o+k*7+4,none⟩=some (.string c.data):=f 4 _ rfl;have d5:wr.cell? ⟨g,o+k*7+5,none⟩=some (.string c.name):=f 5 _ rfl;have d6:wr.cell? ⟨g,o+k*7+6,none⟩=some (.slice c.kp c.kn c.kc):=f 6 _ rfl;have I:=P.out k c hc;obtain⟨a,T⟩:∃a:Nat,a=min c.data.size 10000:=⟨_,rfl⟩;obtain⟨b,hb⟩:∃b:Nat,b=min c.name.size 10000:=⟨_,rfl⟩;obtain⟨d,hd⟩:∃d:Nat,d=min c.kn 10000:=⟨_,rfl⟩;have U:a≤10000:=by omega
   have V:b≤10000:=by omega
   have N:d≤10000:=by omega
   have e1:min (c.data.size:Int) 10000=(a:Int):=by omega
   have e2:min (c.name.size:Int) 10000=(b:Int):=by omega
   have e3:min (c.kn:Int) 10000=(d:Int):=by omega
   clear T hb hd D f hc I O;go_wp2_with fail;go_quiet (fail);go_wp2_with fail;go_roundw
   case rel=>exact⟨k+1,m+a+b+d,by omega,by go_num,by go_num,by omega,by omega,Below.drewN t.out _⟩
   case measure=>simp[intOf];omega
  ·have r:(decide (k<L)&&decide (k≤60))=false:=by
    rw[Bool.and_eq_false_iff]
    by_cases x:k<L
    ·exact .inr (decide_eq_false (fun y=>j ⟨x,y⟩))
    ·exact .inl (decide_eq_false x)
   by_cases x:k<L
   ·have y:¬k≤60:=fun y=>j ⟨x,y⟩
    have z:(k:Int)<(L:Int):=by omega
    have G:¬(k:Int)≤60:=by omega
    have s:¬(L:Int)≤60:=by omega
    have H:decide (k<L)=true:=decide_eq_true x;have X:decide (k≤60)=false:=decide_eq_false y;have A:decide (L≤60)=false:=decide_eq_false (by omega);clear r j;go_wp2_with fail;go_ret;exact⟨⟨_,rfl,fun h=>by cases h⟩,t.out⟩
   ·have z:¬(k:Int)<(L:Int):=by omega
    have H:decide (k<L)=false:=decide_eq_false x;clear r j
    by_cases E:L≤60
    ·have s:(L:Int)≤60:=by omega
     have A:decide (L≤60)=true:=decide_eq_true E
     by_cases ad:m≤12000
     ·have J:(m:Int)≤12000:=by omega
      go_wp2_with fail;go_ret;exact⟨⟨_,rfl,fun _=>E⟩,t.out⟩
     ·have J:¬(m:Int)≤12000:=by omega
      go_wp2_with fail;go_ret;exact⟨⟨_,rfl,fun _=>E⟩,t.out⟩
    ·have s:¬(L:Int)≤60:=by omega
     have A:decide (L≤60)=false:=decide_eq_false E;go_wp2_with fail;go_ret;exact⟨⟨_,rfl,fun h=>by cases h⟩,t.out⟩
theorem EE (g:aH) (w:World):
  Calls prog 22 #[.agg (g.cells).toArray] w fun e w'=>e= .returned (.bool (decide (g.blocks≤48∧g.lbas≤16)))∧Below w.heap.size w w':=by
 obtain⟨b,l,f⟩:=g
 by_cases n:b≤48
 ·by_cases o:l≤16
  ·rw[decide_eq_true (show b≤48∧l≤16 from⟨n,o⟩)]
   go_enter func22,ntmps22
   go_wp2_with (first
    |((with_reducible refine ae 23 (.tmp 0) (aH.cells ⟨b,l,f⟩) (some 1) ?hgd ?ho ?hd ?hx ?_);(case hgd|ho|hd|hx=>rfl);(intro j p d a c q;have k:=a.cell (i:=0) rfl;have m:=a.cell (i:=1) rfl))
    |fail)
   go_ret;exact⟨rfl,c.mono d⟩
  ·rw[decide_eq_false (show¬(b≤48∧l≤16)from fun h=>o h.2)]
   go_enter func22,ntmps22
   go_wp2_with (first
    |((with_reducible refine ae 23 (.tmp 0) (aH.cells ⟨b,l,f⟩) (some 1) ?hgd ?ho ?hd ?hx ?_);(case hgd|ho|hd|hx=>rfl);(intro j p d a c q;have k:=a.cell (i:=0) rfl;have m:=a.cell (i:=1) rfl))
    |fail)
   go_ret;exact⟨rfl,c.mono d⟩
 ·rw[decide_eq_false (show¬(b≤48∧l≤16)from fun h=>n h.1)]
  go_enter func22,ntmps22
  go_wp2_with (first
   |((with_reducible refine ae 23 (.tmp 0) (aH.cells ⟨b,l,f⟩) (some 1) ?hgd ?ho ?hd ?hx ?_);(case hgd|ho|hd|hx=>rfl);(intro j p d a c q;have k:=a.cell (i:=0) rfl;have m:=a.cell (i:=1) rfl))
   |fail)
  go_ret;exact⟨rfl,c.mono d⟩
def L2 (g:aH) (n:Nat) (e:Ending):Prop:=∃q:Bool,e= .returned (.bool q)∧(q=true→g.blocks≤48∧g.lbas≤16∧n≤60)
theorem EF (g:aH) (v:Value) (l:List aG) (w:World) (h:gY w v l):
  Calls prog 6 #[.agg (g.cells).toArray,v] w fun e w'=>L2 g l.length e∧Below w.heap.size w w':=by
 have m:=hid h;obtain⟨p,B,rfl,_⟩:=h.row.shape;have n:=hid (fun(i:World) (hb:Below w.heap.size w i)=>Cd _ l i ⟨m.row.below hb (Nat.le_refl _),m.fits,m.long⟩);obtain⟨q,o⟩:∃q,decide (g.blocks≤48∧g.lbas≤16)=q:=⟨_,rfl⟩;have s:=hid o;have c:=hid (fun(i:World)=>EE g i);rw[o]at c;clear h o;go_enter func6,ntmps6
 go_wp2_with (first
  |((with_reducible refine ae 23 (.tmp 0) (g.cells) (some 2) ?hgd ?ho ?hd ?hx ?_);(case hgd|ho|hd|hx=>rfl);(intro A D x r t C;have j:=hid r))
  |((with_reducible refine ao 23 (.tmp 2) A 0 (g.cells) _ (some 5) (j.out.range) underlying23 rfl bG ?hg ?ho ?hds ?hx ?_);(case ho|hg|hds|hx=>rfl))
  |fail)
 have b:=hid (t.mono x);clear r t x C
 refine(c.out _).mono ?_
 rintro e E ⟨rfl,d⟩;have a:=hid (b.trans (d.mono b.size));clear d
 cases q with
 |false=>
  go_wp2_with fail;go_ret;exact⟨⟨_,rfl,fun h=>by cases h⟩,a.out⟩
 |true=>
  go_wp2_with fail
  refine(n.out _ a.out).mono ?_
  rintro e F ⟨⟨z,rfl,u⟩,f⟩;have y:=hid u;have k:=hid (a.trans (f.mono a.size));clear f u;go_wp2_with fail;go_ret;exact⟨⟨_,rfl,fun h=>⟨(of_decide_eq_true s.out).1,(of_decide_eq_true s.out).2,y.out h⟩⟩,k.out⟩
section
variable {P:Program} {o:Oper} {a:Act} {w:World}
theorem Aa (t g:TypeId) (x y:Operand) (xs b:Array Value) (r:Bool) (c:P.eqGuardType P.depth t=false) (e:(Op.equalIn 10000 t (.agg xs) (.agg b)).run P w= .ok r w)
  (d:o.op= .binOp .neq t x y g) (f:a.eval x= .agg xs) (hy:a.eval y= .agg b):(execOp a.eval o).run P w= .ok (.value (.bool (!r))) w:=by
 unfold execOp;simp only[d,f,hy,Sem.run_bind,run_eqGuard_agg w _ t x y xs b c,Result.andThen_ok,run_neq_struct,e,Sem.run_pure]
end
theorem EG (x:aD):tR x x=true:=by unfold tR;simp
theorem GP (x:aD) (w:World):(Op.equalIn 10000 61 (.agg x.cells.toArray) (.agg x.cells.toArray)).run prog w= .ok true w:=by
 obtain⟨⟨k,ep,f,a,d,g,c,b⟩,e⟩:=x;have h:=KU k ep f a d g c b e k ep f a d g c b e w;rw[EG]at h;exact h
theorem C0 {w:World} {g:Nat} {l:List aD} {z:List Value} {t:TypeId} (h:ac w g (dM l++z) t) {k:Nat} {x:aD} (b:l[k]?=some x):w.rangeAt g (k*9) x.cells:=by
 intro j u hu;have a:=yL l k x b j u hu;exact h.cell (by rw[List.getElem?_append_left (List.getElem?_eq_some_iff.1 a).1];exact a)
theorem EH (o p:Value) (l:List aD) (n:Nat) (w:World) (g:w.ownsRow 0 61 9 o n (dM l)) (h:w.ownsRow 0 61 9 p n (dM l)) (hl:n=l.length) (hn:n≤4096):
  Calls prog 48 #[o,p] w fun e w'=>e= .returned (.bool true)∧Below w.heap.size w w':=by
 obtain⟨H,C,rfl⟩:=az g;obtain⟨I,D,rfl⟩:=az h;have q:=hid g;have r:=hid h;have s:=hid hl;clear g h hl;go_enter func48,ntmps48;go_wp2_with fail;go_loopw [5] (fun v wr=>∃k:Nat,k≤n∧v= .int .i64 k∧Below w.heap.size w wr) (fun v _=>n-(intOf v).toNat)
 case atStart=>exact⟨0,Nat.zero_le _,rfl,Below.refl _ _⟩
 case round=>
  obtain⟨k,E,rfl,a⟩:=hrel;have b:=hid a
  by_cases i:k<n
  ·have m:(k:Int)<n:=by omega
   obtain⟨x,j⟩:∃x,l[k]?=some x:=⟨_,List.getElem?_eq_getElem (by rw[←s.out];exact i)⟩;obtain⟨y,F,J,t,_,_,d⟩:=ba q.out (by omega);obtain⟨z,G,K,u,_,_,f⟩:=ba r.out (by omega)
   injection t with e11 _ e12
   injection u with e21 _ e22
   subst e11 e12 e21 e22;have A:=C0 (d.below a d.lt).drew j;have B:=C0 (f.below a f.lt).drew j;clear a j d f;go_wp2_with fail;refine aB (by kernel_rfl) (by kernel_rfl) ?_
   iterate 3 still_step
   refine mM 61 (.tmp 19) y (k*9) x.cells _ (some 20) A underlying61 rfl fY rfl rfl rfl rfl ?_
   iterate 3 still_step
   refine mM 61 (.tmp 23) z (k*9) x.cells _ (some 24) B underlying61 rfl fY rfl rfl rfl rfl ?_;refine sU 61 _ (.tmp 20) (.tmp 24) _ _ true (some 25) (by kernel_rfl) (GP x _) rfl rfl rfl rfl rfl ?_;refine wpStill_nil ?_;have c:=hid b.drew;go_wp2_with fail;go_roundw
   case rel=>exact⟨k+1,by omega,by go_num,c.out⟩
   case measure=>simp[intOf];omega
  ·obtain rfl:k=n:=by omega
   go_wp2_with fail;go_ret;exact⟨rfl,b.out⟩
theorem K5 (a b c d e f:Int) (n:Nat) (w:World):(Op.equalIn (n+2) 38 (.agg #[.int .i64 a, .int .i64 b, .int .i64 c, .int .i64 d, .int .i64 e, .int .i64 f]) (.agg #[.int .i64 a, .int .i64 b, .int .i64 c, .int .i64 d, .int .i64 e, .int .i64 f])).run prog w= .ok true w:=by
 have h:true=(a==a&&(b==b&&(c==c&&(d==d&&(e==e&&(f==f&&true)))))):=by simp
 conv=>rhs;rw[h]
 refine kY (d:=n+1) underlying38 (by kernel_rfl) ?_
 iterate 6 refine gj (k:= .i64) (by decide) (by kernel_rfl) (by kernel_rfl) underlying3 ?_
 exact nV
theorem Jq (k:Int) (s:ByteArray) (a b c d e f:Int) (w:World):(Op.equalIn 10000 40 (.agg #[.int .i64 k, .string s, .int .i64 a, .int .i64 b, .int .i64 c, .int .i64 d, .int .i64 e, .int .i64 f]) (.agg #[.int .i64 k, .string s, .int .i64 a, .int .i64 b, .int .i64 c, .int .i64 d, .int .i64 e, .int .i64 f])).run prog w= .ok true w:=by
 have h:true=(k==k&&(decide (s=s)&&(true&&true))):=by simp
 conv=>rhs;rw[h]
 refine kY (d:=9999) underlying40 (by kernel_rfl) ?_;refine gj (k:= .i64) (by decide) (by kernel_rfl) (by kernel_rfl) underlying26 ?_;refine qS (by decide) (by kernel_rfl) (by kernel_rfl) underlying9 ?_;refine CO (by decide) (by kernel_rfl) (by kernel_rfl) (K5 a b c d e f 9997 w) ?_;exact nV
theorem GQ (m:AM) (c:aG) (a:c.kind=3∨c.kind=10) (w:World):(Op.equalIn 10000 40 (.agg (eQ m c).1.toArray) (.agg (eQ m c).1.toArray)).run prog w= .ok true w:=by
 rcases a with a|a
 ·have b:eQ m c=(gz (readA m c.lba c.epoch).1 (readA m c.lba c.epoch).2,m):=by unfold eQ;rw[if_neg (by omega),if_pos a]
  rw[b];exact Jq _ _ _ _ _ _ _ _ w
 ·have b:eQ m c=([.int .i64 0, .string ⟨#[]⟩]++ri m,m):=by unfold eQ;rw[if_neg (by omega),if_neg (by omega),if_pos a]
  rw[b];exact Jq _ _ _ _ _ _ _ _ w
theorem qF {w:World} {i:ap} {v:ai} {m:AM} {log:List LE} {g:Int} {c:aG} (h:al w i v) (a:aS v m log g) (d:c.kind=3∨c.kind=10):
  Calls prog 9 #[.pointer (some ⟨i.vb,0,none⟩),c.v] w fun e w'=>e= .returned (.agg (eQ m c).1.toArray)∧Below w.heap.size w w':=by
 rcases d with d|d
 ·have f:eQ m c=(gz (readA m c.lba c.epoch).1 (readA m c.lba c.epoch).2,m):=by unfold eQ;rw[if_neg (by omega),if_pos d]
  rw[f]
  refine(wY _ i v c w h d (fun q p=>qA p a c.lba c.epoch)).mono fun e w' l=> ?_
  obtain⟨⟨r,k,j,n,o⟩,hb⟩:=l;exact⟨by rw[j,n,o],hb⟩
 ·have f:eQ m c=([.int .i64 0, .string ⟨#[]⟩]++ri m,m):=by unfold eQ;rw[if_neg (by omega),if_neg (by omega),if_pos d]
  rw[f]
  refine(uy i v m.b c w h d a.ok a.maps (by have:=a.vlen;omega) (by have:=a.nr;have:=a.used_le;omega)).mono fun e w' l=> ?_
  obtain⟨j,hb⟩:=l;exact⟨by rw[j];unfold oU;rw[CY a],hb⟩
theorem rT:prog.built 36 [(0, .int .i64 10)]=some (aG.cells ⟨10,0,0,0,⟨#[]⟩,⟨#[]⟩,none,0,0⟩).toArray:=by kernel_rfl
theorem EI (a b:Int):prog.built 36 [(0, .int .i64 3),(1, .int .i64 a),(2, .int .i64 b)]=some (aG.cells ⟨3,a,b,0,⟨#[]⟩,⟨#[]⟩,none,0,0⟩).toArray:=by kernel_rfl
theorem GR (w:World):(zeroValue 36).run prog w= .ok (.agg (aG.cells ⟨0,0,0,0,⟨#[]⟩,⟨#[]⟩,none,0,0⟩).toArray) w:=by kernel_rfl
theorem Ce (w:World) (i P:ap) (v A:ai) (m:AM) (log:List LE) (g:Int) (h:al w i v) (h':al w P A) (k:aS v m log g) (I:aS A m log g) (hs:A.sealed=v.sealed) (hk:A.key=v.key) (hd:A.data=v.data):
  Calls prog 15 #[.pointer (some ⟨i.vb,0,none⟩), .pointer (some ⟨P.vb,0,none⟩)] w fun e w'=>e= .returned (.bool true)∧Below w.heap.size w w':=by
 have u:=hid (show(∀f,Below w.heap.size w f→∀c:aG,(c.kind=3∨c.kind=10)→Calls prog 9 #[.pointer (some ⟨i.vb,0,none⟩),c.v] f fun e w'=>e= .returned (.agg (eQ m c).1.toArray)∧Below f.heap.size f w')∧
   (∀f,Below w.heap.size w f→∀c:aG,(c.kind=3∨c.kind=10)→Calls prog 9 #[.pointer (some ⟨P.vb,0,none⟩),c.v] f fun e w'=>e= .returned (.agg (eQ m c).1.toArray)∧Below f.heap.size f w')from
  ⟨fun f hb c hc=>qF (h.below hb) k hc,fun f hb c hc=>qF (h'.below hb) I hc⟩)
 have HV:=hid (fun(f:World) (hb:Below w.heap.size w f)=>show al f i v from h.below hb);have Y:=hid (fun(f:World) (hb:Below w.heap.size w f)=>show al f P A from h'.below hb);have HN:=hid (show v.sealed.length≤1020 from by have:=k.nr;have:=k.used_le;omega);have U:=hid (show v.epoch=m.epoch∧A.epoch=m.epoch from⟨k.epoch,I.epoch⟩);have HQ:=hid (And.intro hs (And.intro hk hd));have l:=hid (show 0≤m.geo.first∧m.geo.first≤m.epoch∧m.epoch≤4294967295∧v.last.geo=m.geo∧1≤m.geo.lbas∧m.geo.lbas≤4096 from⟨k.f0,k.e0,k.e1,k.geo,by rw[←k.geo];exact k.ok.sup.geo.l0,by rw[←k.geo];exact k.ok.sup.geo.l1⟩);have Q:=hid (Below.refl w.heap.size w);obtain⟨gb,gl,gf,s⟩:∃a b c,m.geo=⟨a,b,c⟩:=⟨_,_,_,rfl⟩
 have W:=hid (fun(f:World) (hb:Below w.heap.size w f)=>show Calls prog 49 #[.pointer (some ⟨i.vb,0,none⟩)] f fun e w'=>e= .returned (.agg #[.int .i64 gb, .int .i64 gl, .int .i64 gf])∧Below f.heap.size f w' from by
  have h9:=iL i v f (h.below hb);rw[k.geo,s]at h9;exact h9)
 rw[s]at l;clear h h' k I hs hk hd s;have b9:∀(a b c:Int) (w:World),Sem.run prog (Instr.field 23 (.agg #[.int .i64 a, .int .i64 b, .int .i64 c]) 1) w= .ok (.int .i64 b) w:=fun _ _ _ _=>by kernel_rfl
 have b8:∀(a b c:Int) (w:World),Sem.run prog (Instr.field 23 (.agg #[.int .i64 a, .int .i64 b, .int .i64 c]) 2) w= .ok (.int .i64 c) w:=fun _ _ _ _=>by kernel_rfl
 go_enter func15,ntmps15;go_wp2_with fail
 refine(lw i v _ (HV.out _ Q.out)).mono ?_
 rintro e w1 ⟨rfl,a5⟩;have R:=hid (show Below w.heap.size w w1 from by rw[a5];exact Q.drew);rw[U.out.1];clear a5;go_wp2_with fail
 refine(lw P A _ (Y.out _ R.out)).mono ?_
 rintro e w2 ⟨rfl,a6⟩;have D:=hid (show Below w.heap.size w w2 from by rw[a6];exact R.drew);rw[U.out.2,HQ.out.2.1,HQ.out.2.2];have bn:(m.epoch==m.epoch)=true:=beq_self_eq_true _;have bo:(v.key.toList==v.key.toList)=true:=beq_self_eq_true _;have bm:(v.data.toList==v.data.toList)=true:=beq_self_eq_true _;clear a6;go_wp2_with fail
 refine(qE i v _ (HV.out _ D.out) (by have:=HN.out;omega)).mono ?_
 rintro e w3 ⟨⟨s1,rfl,a4⟩,aq⟩;have E:=hid (D.trans (aq.mono D.size));have bd:=hid (gp a4);clear aq a4;go_wp2_with fail
 refine(qE P A _ (Y.out _ E.out) (by rw[HQ.out.1];have:=HN.out;omega)).mono ?_
 rintro e w4 ⟨⟨s2,rfl,O⟩,J⟩;rw[HQ.out.1]at O;have S:=hid (E.trans (J.mono E.size));have X:=hid (own_below J bd.out);have be:=hid (gp O);clear J O;go_wp2_with fail
 refine(EH s1 s2 v.sealed _ _ X.out be.out rfl (by have:=HN.out;omega)).mono ?_
 rintro e w5 ⟨rfl,aA⟩;have F:=hid (S.trans (aA.mono S.size));clear aA
 go_wp2_with (first
  |((with_reducible refine au 36 ?pc (aG.cells ⟨10,0,0,0,⟨#[]⟩,⟨#[]⟩,none,0,0⟩) ?hg ?ho ?hf ?_);(case hg|ho=>rfl);(case hf=>exact rT))
  |fail)
 refine(u.out.1 _ F.out ⟨10,0,0,0,⟨#[]⟩,⟨#[]⟩,none,0,0⟩ (.inr rfl)).mono ?_
 rintro e w6 ⟨rfl,r⟩;have G:=hid (F.trans (r.mono F.size));clear r
 go_wp2_with (first
  |((with_reducible refine au 36 ?pc (aG.cells ⟨10,0,0,0,⟨#[]⟩,⟨#[]⟩,none,0,0⟩) ?hg ?ho ?hf ?_);(case hg|ho=>rfl);(case hf=>exact rT))
  |fail)
 refine(u.out.2 _ G.out ⟨10,0,0,0,⟨#[]⟩,⟨#[]⟩,none,0,0⟩ (.inr rfl)).mono ?_
 rintro e w7 ⟨rfl,a0⟩;have H:=hid (G.trans (a0.mono G.size));clear a0
 go_wp2_with (first
  |((with_reducible refine u4 40 40 (.tmp 50) (.tmp 53) (eQ m ⟨10,0,0,0,⟨#[]⟩,⟨#[]⟩,none,0,0⟩).1.toArray (eQ m ⟨10,0,0,0,⟨#[]⟩,⟨#[]⟩,none,0,0⟩).1.toArray true (some 54) (by kernel_rfl) (GQ m ⟨10,0,0,0,⟨#[]⟩,⟨#[]⟩,none,0,0⟩ (.inr rfl) _) ?hg ?ho ?hd ?hx ?hy ?_);(case ho|hg|hd|hx|hy=>rfl))
  |fail)
 refine(W.out _ H.out).mono ?_
 rintro e w8 ⟨rfl,a1⟩;have a8:=hid (H.trans (a1.mono H.size));clear a1;go_wp2_with fail;clear bn bo bm;go_loopw [59] (fun x wr=>∃j:Nat,(j:Int)≤gl∧x= .int .i64 (j:Int)∧Hid (Below w.heap.size w wr)) (fun x _=>gl.toNat-(intOf x).toNat)
 case atStart=>exact⟨0,by have:=l.out;(try simp only at this);omega,rfl,a8⟩
 case round=>
  obtain⟨j,hj,rfl,t⟩:=hrel;have cc:gl≤4096:=by have:=l.out;(try simp only at this);omega
  by_cases cb:(j:Int)<gl
  ·go_wp2_with fail
   refine(W.out _ t.out).mono ?_
   rintro e w9 ⟨rfl,a2⟩;have a9:=hid (t.trans (a2.mono t.size));clear a2;obtain⟨fn,a3⟩:∃fn:Nat,gf=(fn:Int):=⟨gf.toNat,by have:=l.out;(try simp only at this);omega⟩;have b4:=hid a3;go_wp2_with fail;go_loopw [12] (fun x wr=>∃e:Nat,(e:Int)≤m.epoch+1∧x= .int .i64 (e:Int)∧Hid (Below w.heap.size w wr)) (fun x _=>(m.epoch+1).toNat-(intOf x).toNat)
   case atStart=>exact⟨fn,by have:=l.out;(try simp only at this);omega,by first|rfl|rw[a3],a9⟩
   case round=>
    obtain⟨e,he,rfl,T⟩:=hrel;have ce:m.epoch≤4294967295:=by have:=l.out;(try simp only at this);omega
    by_cases ca:(e:Int)≤m.epoch
    ·go_upto_region 12 with(first
      |((with_reducible refine au 36 ?pc (aG.cells ⟨3,(j:Int),(e:Int),0,⟨#[]⟩,⟨#[]⟩,none,0,0⟩) ?hg ?ho ?hf ?_);(case hg|ho=>rfl);(case hf=>exact EI _ _))
      |((with_reducible refine ab 36 _ GR (some 13) ?hgd ?ho ?hd ?_);(case hgd|ho|hd=>rfl);(intro y w5 l5 B5 e5 z5))
      |((with_reducible refine aa 36 (.tmp 13) (.tmp 72) y (aG.cells ⟨0,0,0,0,⟨#[]⟩,⟨#[]⟩,none,0,0⟩) (aG.cells ⟨3,(j:Int),(e:Int),0,⟨#[]⟩,⟨#[]⟩,none,0,0⟩) 36 B5 rfl kD (aG.one _) ?hgd ?ho ?hx ?hy ?_);(case hgd|ho|hx|hy=>rfl);(intro w6 B6 o6))
      |fail)
     have r:Below wr.heap.size wr w6:=o6.below (e5.mono l5) l5;have p:=hid B6;have B:=hid (T.trans (r.mono T.size));clear B5 B6 e5 z5 o6 l5 r;refine hb (fun f=>f.rangeAt y 0 (aG.cells ⟨3,(j:Int),(e:Int),0,⟨#[]⟩,⟨#[]⟩,none,0,0⟩)) (p.drew.range) fun d=> ?_
     obtain⟨wd,z⟩:∃f,f=w6.drew:=⟨_,rfl⟩;have L:Below w6.heap.size w6 wd:=by rw[z];exact(Below.refl _ _).drew
     have C:=hid (p.below L p.lt);have n:=hid (B.trans (L.mono B.size));rw[←z];rw[←z]at d;clear z L;refine hp 0 ?_;refine hp 3 ?_;refine hl 1 36 y 0 ((aG.cells ⟨3,(j:Int),(e:Int),0,⟨#[]⟩,⟨#[]⟩,none,0,0⟩)) (fun w h=>h) underlying36 kD ?_;refine hl 4 36 y 0 ((aG.cells ⟨3,(j:Int),(e:Int),0,⟨#[]⟩,⟨#[]⟩,none,0,0⟩)) (fun w h=>h) underlying36 kD ?_;refine hc 2 fun K hK=> ?_
     go_simp
     refine(u.out.1 _ (n.out) ⟨3,(j:Int),(e:Int),0,⟨#[]⟩,⟨#[]⟩,none,0,0⟩ (.inl rfl)).mono ?_
     rintro ea we ⟨rfl,M⟩;have q:=hid (C.below M C.lt);have o:=hid (n.trans (M.mono n.size));clear M
     (try go_wp2_with fail)
     refine hK.out _ _ (q.range) fun _=> ?_
     clear hK K d;rename_i d
     (try go_frame)
     refine hc 5 fun K hK=> ?_
     go_simp
     refine(u.out.2 _ (o.out) ⟨3,(j:Int),(e:Int),0,⟨#[]⟩,⟨#[]⟩,none,0,0⟩ (.inl rfl)).mono ?_
     rintro ea wf ⟨rfl,N⟩;have Z:=hid (q.below N q.lt);have V:=hid (o.trans (N.mono o.size));clear N
     (try go_wp2_with fail)
     refine hK.out _ _ (Z.range) fun _=> ?_
     clear hK K d;rename_i d
     (try go_frame)
     refine hp (v:= .bool false) 6 ?_ (hy:=by intro w b7;exact Aa 40 40 (.tmp 75) (.tmp 78) (eQ m ⟨3,(j:Int),(e:Int),0,⟨#[]⟩,⟨#[]⟩,none,0,0⟩).1.toArray (eQ m ⟨3,(j:Int),(e:Int),0,⟨#[]⟩,⟨#[]⟩,none,0,0⟩).1.toArray true (by kernel_rfl) (GQ m ⟨3,(j:Int),(e:Int),0,⟨#[]⟩,⟨#[]⟩,none,0,0⟩ (.inl rfl) _) rfl rfl rfl);refine hd ?_;clear d;go_wp2_with fail;go_roundw
     case rel=>exact⟨e+1,by omega,by go_num,V⟩
     case measure=>simp[intOf];omega
    ·go_wp2_with fail
     go_roundw
     case rel=>exact⟨_,_,_,_,_,⟨j+1,by omega,rfl⟩,rfl,rfl,rfl,rfl,rfl⟩
     case measure=>simp[intOf];omega
  ·go_wp2_with fail
   go_ret;exact⟨rfl,t.out⟩
theorem EJ (p q:Value) (t u n:Nat) (xs:List ByteArray) (w:World) (h:w.ownsRow t 9 1 p n (xs.map .string)) (m:w.ownsRow u 9 1 q n (xs.map .string)) (hn:n≤4096):
  Calls prog 47 #[p,q] w fun e w'=>e= .returned (.bool true)∧Below w.heap.size w w':=by
 have hl:n=xs.length:=by have:=h.1;simpa using this.symm
 obtain⟨I,D,rfl⟩:=az h;obtain⟨J,E,rfl⟩:=az m;have r:=hid h;have s:=hid m;have l:=hid hl;clear h m hl;go_enter func47,ntmps47;go_wp2_with fail;go_loopw [5] (fun v wr=>∃k:Nat,k≤n∧v= .int .i64 k∧Below w.heap.size w wr) (fun v _=>n-(intOf v).toNat)
 case atStart=>exact⟨0,Nat.zero_le _,rfl,Below.refl _ _⟩
 case round=>
  obtain⟨k,F,rfl,a⟩:=hrel;have c:=hid a
  by_cases b:k<n
  ·have o:(k:Int)<n:=by omega
   have f:(xs.map Value.string)[k]?=some (.string (xs.getD k ByteArray.empty)):=by
    have:k<xs.length:=by rw[←l.out];exact b
    simp[this,List.getD]
   obtain⟨x,g⟩:∃x,xs.getD k ByteArray.empty=x:=⟨_,rfl⟩;rw[g]at f;have C:=hid f;obtain⟨A,G,M,y,_,_,i⟩:=ba r.out (by omega);obtain⟨B,H,N,z,_,_,j⟩:=ba s.out (by omega)
   injection y with e11 _ e12
   injection z with e21 _ e22
   subst e11 e12 e21 e22;have K:wr.cell? ⟨A,k,none⟩=some (.string x):=(i.below a i.lt).cell (by rw[List.getElem?_append_left (by rw[List.length_map,←l.out];exact b)];exact f);have L:wr.cell? ⟨B,k,none⟩=some (.string x):=(j.below a j.lt).cell (by rw[List.getElem?_append_left (by rw[List.length_map,←l.out];exact b)];exact f);clear a f g i j;go_wp2_with fail;refine aB (by kernel_rfl) (by kernel_rfl) ?_
   iterate 9 still_step
   refine wpStill_nil ?_;have d:=hid c.drew;go_wp2_with fail;go_roundw
   case rel=>exact⟨k+1,by omega,by go_num,d.out⟩
   case measure=>simp[intOf];omega
  ·obtain rfl:k=n:=by omega
   go_wp2_with fail;go_ret;exact⟨rfl,c.out⟩
theorem J9 (f g:Option Addr) (d b e c:Nat):∀v∈([.slice f d b, .slice g e c]:List Value),v.oneCell'=true:=by
 intro v a;simp at a;rcases a with rfl|rfl<;>rfl
theorem EK (B C z A:Value) (F G I K n:Nat) (xs:List ByteArray) (w:World) (l:w.ownsRow F 9 1 B n (xs.map .string)) (m:w.ownsRow G 9 1 C n (xs.map .string)) (x:w.ownsRow I 109 2 z 0 []) (y:w.ownsRow K 109 2 A 0 []) (hn:n≤4096):
  Calls prog 14 #[.agg #[B,z], .agg #[C,A]] w fun e w'=>e= .returned (.bool true)∧Below w.heap.size w w':=by
 obtain⟨P,L,rfl⟩:=az l;obtain⟨Q,M,rfl⟩:=az m;obtain⟨R,N,rfl⟩:=lX x;obtain⟨S,O,rfl⟩:=lX y;have D:=hid l;have E:=hid m;clear l m x y;go_enter func14,ntmps14
 go_wp2_with (first
  |((with_reducible refine ae 48 (.tmp 0) [.slice P n L, .slice R 0 N] (some 2) ?hgd ?ho ?hd ?hx ?_);(case hgd|ho|hd|hx=>rfl);(intro H X o r u q))
  |((with_reducible refine ae 48 (.tmp 1) [.slice Q n M, .slice S 0 O] (some 3) ?hgd ?ho ?hd ?hx ?_);(case hgd|ho|hd|hx=>rfl);(intro J w2 p g k W;have c:=r.below k (Nat.lt_of_lt_of_le q p);have U:=c.cell (i:=0) rfl;have V:=g.cell (i:=0) rfl))
  |fail)
 have f:Below w.heap.size w w2:=(u.mono o).trans (k.mono (Nat.le_trans o (Nat.le_of_lt (Nat.lt_of_lt_of_le q p))));have s:=hid c;have t:=hid g;have a:=hid f;clear r c g u k q W o p U V f
 refine(EJ _ _ _ _ n xs _ (own_below a.out D.out) (own_below a.out E.out) hn).mono ?_
 rintro e T ⟨rfl,b⟩;have h:=hid (s.below b s.lt);have j:=hid (t.below b t.lt);have d:=hid (a.trans (b.mono a.size));clear b;have Y:=h.cell (i:=1) rfl;have Z:=j.cell (i:=1) rfl;go_wp2_with fail;go_loopw [5] (fun v wr=>v= .int .i64 0∧T=wr) (fun _ _=>0)
 case atStart=>exact⟨rfl,rfl⟩
 case round=>
  obtain⟨rfl,rfl⟩:=hrel;go_wp2_with fail;go_ret;exact⟨rfl,d.out⟩
end Go.Proofs.YtadooplpfhdhcaaGreat
