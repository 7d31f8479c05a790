/- Walks of chain.Said, Tag and the documents' Said, Tag (chapter 20). Walks of chain.Tag, Begin, Follow, and the documents' Tag (chapter 20). Walks of sha.Sum of nothing, chain.Sum; the example of chapter 20. What a statement's parameters hand to its walk: a record by value. -/
import Derived.Test.YtadooplpfhdhcaaGreatQ12
import Derived.Test.YtadooplpfhdhcaaGreatQ6
import Derived.Test.YtadooplpfhdhcaaGreatQ5
import Derived.Test.YtadooplpfhdhcaaGreatQ2
import Derived.Lib.SmallJoins
import Derived.Deep.Fields
import Derived.Deep.QuietTactic
import Derived.BigQuiet
import Derived.Test.YtadooplpfhdhcaaGreatQ4
import Derived.Test.YtadooplpfhdhcaaGreatQ8
set_option linter.unusedSimpArgs false
set_option linter.unusedVariables false
set_option maxRecDepth 100000
set_option maxHeartbeats 4000000
namespace Go.Proofs.YtadooplpfhdhcaaGreat
open Go Go.RowKit
open Go.Lib (hid)
open Go.Proofs.Tryz
def Dc (was:List UInt8) (seq:Int) (r:Rec):List UInt8:=was++beBytes 4 seq.toNat++cD r
def iY (was:ByteArray) (seq:Int) (r:Rec):Prop:=was.size=32∧0≤seq∧seq≤4294967295∧aI r=true
instance (was:ByteArray) (seq:Int) (r:Rec):Decidable (iY was seq r):=by unfold iY;infer_instance
def yy (ok:Prop) (l:List UInt8) (e:Ending):Prop:=
 (ok∧∃r,e= .returned (.tuple #[.string r, .bool true])∧ah r l)∨(¬ok∧e= .returned (.tuple #[.string ⟨#[]⟩, .bool false]))
theorem yy.yes {a:Prop} {l:List UInt8} {e:Ending} (h:yy a l e) (b:a):∃r,e= .returned (.tuple #[.string r, .bool true])∧ah r l:=by
 rcases h with⟨_,h⟩|⟨h,_⟩
 ·exact h
 ·exact absurd b h
theorem yy.no {a:Prop} {l:List UInt8} {e:Ending} (h:yy a l e) (b:¬a):e= .returned (.tuple #[.string ⟨#[]⟩, .bool false]):=by
 rcases h with⟨h,_⟩|⟨_,h⟩
 ·exact absurd h b
 ·exact h
theorem eO {r:Rec} (h:aI r=true):(cD r).length≤85:=by
 have:=dh h
 have a:r.root.data.toList.length=r.root.size:=rfl;have b:r.name.data.toList.length=r.name.size:=rfl;unfold cD;rw[List.length_append,List.length_append,mf,ch,ch];omega
theorem jR (n:Int) (w:World) (h:Fits n):
  Calls prog 143 #[.int .i64 n, .int .i64 4] w fun e w'=>Ends (0≤n∧n≤4294967295) (beBytes 4 n.toNat) 2 e∧Below w.heap.size w w':=by
 by_cases a:0≤n∧n≤4294967295
 ·obtain⟨m,rfl⟩:∃m:Nat,n=(m:Int):=⟨n.toNat,by omega⟩
  refine(sF m 4 w (by omega) (by omega) (by omega) (fun _=>by show m<4294967296;omega)).mono ?_
  rintro e i ⟨r,rfl,b,hb⟩;exact⟨.inl ⟨a,r,rfl,b⟩,hb⟩
 ·by_cases c:n<0
  ·go_enter func143,ntmps143
   go_wp2_with fail;go_ret2;exact⟨.inr ⟨a,rfl⟩,Below.refl _ _⟩
  ·have d:0≤n:=by omega
   have f:4294967296≤n:=by omega
   have g:(0:Int)<n/4294967296:=by omega
   go_enter func143,ntmps143;go_wp2_with fail;go_ret2;exact⟨.inr ⟨by omega,rfl⟩,Below.refl _ _⟩
theorem Df (c:ByteArray) (a:Int) (r:Rec) (w:World) (j:r.root.size≤1048576) (g:r.name.size≤1048576) (E:Fits r.epoch) (u:Fits a):
  Calls prog 208 #[.string c, .int .i64 a,r.v] w fun e w'=>Ends (iY c a r) (Dc c.data.toList a r) 2 e∧Below w.heap.size w w':=by
 by_cases k:0≤a∧a≤4294967295
 rotate_left
 ·go_enter func208,ntmps208
  go_wp2_with ((with_reducible refine ae 59 (.tmp 2) r.cells (some 5) ?hgd ?ho ?hd ?hx ?_);(case hgd|ho|hd|hx=>rfl);(intro b w0 m s l y))
  refine(jR a _ u).mono ?_
  rintro e B ⟨f,d⟩;have f:=f.no k;subst f;go_wp2_with fail;go_ret2;exact⟨.inr ⟨fun h=>k ⟨h.2.1,h.2.2.1⟩,rfl⟩,(l.mono m).trans (d.mono (by omega))⟩
 by_cases z:c.size=32
 rotate_left
 ·have D:¬(c.size:Int)=32:=by omega
  go_enter func208,ntmps208;go_wp2_with ((with_reducible refine ae 59 (.tmp 2) r.cells (some 5) ?hgd ?ho ?hd ?hx ?_);(case hgd|ho|hd|hx=>rfl);(intro b w0 m s l y))
  refine(jR a _ u).mono ?_
  rintro e B ⟨f,d⟩;obtain⟨q,rfl,x⟩:=f.yes k;clear f;go_wp2_with fail;go_ret2;exact⟨.inr ⟨fun h=>z h.1,rfl⟩,(l.mono m).trans (d.mono (by omega))⟩
 have D:(c.size:Int)=32:=by omega
 have F:c.size≤32:=by omega
 go_enter func208,ntmps208;go_wp2_with ((with_reducible refine ae 59 (.tmp 2) r.cells (some 5) ?hgd ?ho ?hd ?hx ?_);(case hgd|ho|hd|hx=>rfl);(intro b w0 m s l y))
 refine(jR a _ u).mono ?_
 rintro e B ⟨f,d⟩;obtain⟨q,rfl,x⟩:=f.yes k;clear f;have H:q.size≤4:=by rw[x.size,beBytes_length];omega
 have C:=hid (s.below d y);clear s;go_wp2_with ((with_reducible refine aj 59 (.tmp 5) b r.cells 59 _ C.out underlying59 rfl aV ?hgd ?ho ?hx ?_);(case hgd|ho|hx=>rfl))
 refine(rr r _ j g E).mono ?_
 rintro e I ⟨⟨i,p,rfl,A⟩|⟨o,rfl⟩,n⟩
 ·have G:p.size≤85:=by rw[A.size];exact eO i
  have t:=hid i;clear i;go_wp2_with fail;go_ret2;refine⟨.inl ⟨⟨z,k.1,k.2,t.out⟩,_,rfl,((ah.self c).append x).append A⟩,(l.mono m).trans ((bt d n).mono (by omega))⟩
 ·have t:=hid o;clear o
  go_wp2_with fail;go_ret2;exact⟨.inr ⟨fun h=>by have:=h.2.2.2;rw[t.out]at this;exact absurd this (by decide),rfl⟩,(l.mono m).trans ((bt d n).mono (by omega))⟩
def jj (key was:List UInt8) (seq:Int) (r:Rec):List UInt8:=rA (iJ key [109,97,99] []) (Dc was seq r)
theorem di (key b:List UInt8) (a:Int) (r:Rec):(jj key b a r).length=32:=lE _ _
theorem E9 (key a:ByteArray) (c:Int) (r:Rec) (w:World) (i:r.root.size≤1048576) (g:r.name.size≤1048576) (A:Fits r.epoch) (B:Fits c):
  Calls prog 131 #[.string key, .string a, .int .i64 c,r.v] w fun e w'=>Ends (key.size=32∧iY a c r) (jj key.data.toList a.data.toList c r) 2 e∧Below w.heap.size w w':=by
 go_enter func131,ntmps131;go_wp2_with ((with_reducible refine ae 59 (.tmp 3) r.cells (some 7) ?hgd ?ho ?hd ?hx ?_);(case hgd|ho|hd|hx=>rfl);(intro b w0 s u n D))
 refine(CC key _).mono ?_
 rintro e H ⟨⟨j,q,rfl,y⟩|⟨j,rfl⟩,d⟩
 ·have l:=hid j;clear j
  have G:q.size≤32:=by rw[y.size,gK];omega
  have z:=hid (u.below d D);clear u;go_wp2_with ((with_reducible refine aj 59 (.tmp 7) b r.cells 59 _ z.out underlying59 rfl aV ?hgd ?ho ?hx ?_);(case hgd|ho|hx=>rfl))
  refine(Df a c r _ i g A B).mono ?_
  rintro e I ⟨⟨f,p,rfl,x⟩|⟨f,rfl⟩,k⟩
  ·have F:p.size≤121:=by
    rw[x.size];unfold Dc;rw[List.length_append,List.length_append,beBytes_length]
    have:=eO f.2.2.2
    have E:a.data.toList.length=a.size:=rfl
    have:=f.1
    omega
   have m:=hid f;clear f;go_wp2_with fail
   refine(sR q p _ (by omega) (by omega)).mono ?_
   rintro e J ⟨t,rfl,C,o⟩;go_wp2_with fail;go_ret2;refine⟨.inl ⟨⟨l.out,m.out⟩,t,rfl,C.cast ?_⟩,(n.mono s).trans ((bt d (bt k o)).mono (by omega))⟩;rw[show q.data.toList= _ from y,show p.data.toList= _ from x];rfl
  ·have m:=hid f;clear f
   go_wp2_with fail;go_ret2;exact⟨.inr ⟨fun h=>m.out h.2,rfl⟩,(n.mono s).trans ((bt d k).mono (by omega))⟩
 ·have l:=hid j;clear j
  go_wp2_with fail;go_ret2;exact⟨.inr ⟨fun h=>l.out h.1,rfl⟩,(n.mono s).trans (d.mono (by omega))⟩
theorem Dh (w:World):
  Calls prog 129 #[] w fun e w'=>∃r,e= .returned (.string r)∧ah r (List.replicate 32 0)∧Below w.heap.size w w':=by
 go_enter func129,ntmps129;go_wp2_with fail
 refine(kw 32 _ (by omega)).mono ?_
 rintro e c ⟨r,rfl,b,a⟩;go_wp2_with fail;go_ret;exact⟨r,rfl,b,a⟩
def pK (w:World) (v:Value) (l:List Rec):Prop:=
 (l=[]∧∃(p:Option Addr) (c:Nat),v= .slice p 0 c)∨
 ∃g o c,v= .slice (some ⟨g,o,none⟩) l.length c∧g<w.heap.size∧∀(j:Nat) (r:Rec),l[j]?=some r→w.rangeAt g (o+j*8) r.cells
def dD (epoch now:Int) (i:Nat):List Rec→Int×Nat×Int
 |[]=>(epoch,i,0)
 |r::l=>if aI r=true∧r.epoch=epoch∧now≤r.time then dD (if r.kind=1 then epoch+1 else epoch) r.time (i+1) l else(epoch,i,16)
theorem yJ (p:Option Addr) (c:Nat) (w:World):
  Calls prog 67 #[.slice p 0 c] w fun e w'=>∃r,e= .returned (.string r)∧ah r (eh [])∧Below w.heap.size w w':=by
 go_enter func67,ntmps67;go_wp2_with fail
 refine(zE _).mono ?_
 rintro e f ⟨b,rfl,k,g,a,m⟩;have h:Hid (mC f b []):=⟨⟨#[]⟩,rfl,g⟩;clear g;go_wp2_with fail;go_loopw [9] (fun i wr=>i= .int .i64 0∧f=wr) (fun i _=>0)
 case atStart=>exact⟨rfl,rfl⟩
 case round=>
  obtain⟨rfl,rfl⟩:=hrel;go_wp2_with fail
  refine(wR b [] f h.out (by simp)).mono ?_
  rintro e l ⟨r,rfl,j,d⟩;go_wp2_with fail;go_ret;exact⟨r,rfl,j,a.trans (d.mono a.size)⟩
structure aD where
 r:Rec
 tag:ByteArray
def aD.cells (x:aD):List Value:=[.int .i64 x.r.kind, .int .i64 x.r.epoch, .int .i64 x.r.time, .int .i64 x.r.count, .int .i64 x.r.target, .int .i64 x.r.till, .string x.r.root, .string x.r.name, .string x.tag]
def dG (w:World) (v:Value) (l:List aD):Prop:=
 (l=[]∧∃(p:Option Addr) (c:Nat),v= .slice p 0 c)∨
 ∃g o c,v= .slice (some ⟨g,o,none⟩) l.length c∧l.length≤c∧g<w.heap.size∧∀(j:Nat) (x:aD),l[j]?=some x→w.rangeAt g (o+j*9) x.cells
theorem dG.below {w a:World} {v:Value} {l:List aD} (h:dG w v l) {B:Nat} (hb:Below B w a) (k:w.heap.size≤B):dG a v l:=by
 refine h.imp id ?_;rintro⟨g,o,c,b,hc,f,d⟩;exact⟨g,o,c,b,hc,by have:=hb.size;omega,fun j x e i u hu=>by rw[hb.cell (by show g<B;omega)];exact d j x e i u hu⟩
theorem dG.shape {w:World} {v:Value} {l:List aD} (h:dG w v l):∃(p:Option Addr) (c:Nat),v= .slice p l.length c:=by
 rcases h with⟨rfl,p,c,rfl⟩|⟨g,o,c,rfl,_⟩
 ·exact⟨p,c,rfl⟩
 ·exact⟨_,c,rfl⟩
theorem vR {w:World} {g o:Nat} {x:aD} (h:w.rangeAt g o x.cells):
  w.cell? ⟨g,o,none⟩=some (.int .i64 x.r.kind)∧w.cell? ⟨g,o+1,none⟩=some (.int .i64 x.r.epoch)∧w.cell? ⟨g,o+2,none⟩=some (.int .i64 x.r.time)∧w.cell? ⟨g,o+3,none⟩=some (.int .i64 x.r.count)∧
  w.cell? ⟨g,o+4,none⟩=some (.int .i64 x.r.target)∧w.cell? ⟨g,o+5,none⟩=some (.int .i64 x.r.till)∧w.cell? ⟨g,o+6,none⟩=some (.string x.r.root)∧w.cell? ⟨g,o+7,none⟩=some (.string x.r.name)∧w.cell? ⟨g,o+8,none⟩=some (.string x.tag):=
 ⟨h 0 _ rfl,h 1 _ rfl,h 2 _ rfl,h 3 _ rfl,h 4 _ rfl,h 5 _ rfl,h 6 _ rfl,h 7 _ rfl,h 8 _ rfl⟩
open Go.ChangeShapes Go.WideShapes Go.Deep
structure CG (r:Rec):Prop where
 kind:Fits r.kind
 epoch:Fits r.epoch
 time:Fits r.time
 count:Fits r.count
 target:Fits r.target
 till:Fits r.till
section
variable {H:Type} {enc:TypeId×Value→H} {w:World} {base:Nat} {spare:Nat→Bool} {held:Bool}
end
structure yK (w:World) (v:Value) (l:List aD):Prop where
 row:dG w v l
 fits:∀(j:Nat) (x:aD),l[j]?=some x→CG x.r
section
variable {H:Type} {enc:TypeId×Value→H} {w:World} {base:Nat} {spare:Nat→Bool} {held:Bool}
end
theorem yK.below {w a:World} {v:Value} {l:List aD} (h:yK w v l) {B:Nat} (hb:Below B w a) (b:w.heap.size≤B):yK a v l:=⟨h.row.below hb b,h.fits⟩
def dM (ys:List aD):List Value:=ys.flatMap aD.cells
theorem jS (a:List aD) (y:aD):dM (a++[y])=dM a++y.cells:=by simp[dM]
theorem yL (b:List aD):∀(j:Nat) (y:aD),b[j]?=some y→∀(i:Nat) (u:Value),y.cells[i]?=some u→(dM b)[j*9+i]?=some u:=by
 induction b with
 |nil=>intro j y h;simp at h
 |cons a r ih=>
  intro j y h i u hu;have c:a.cells.length=9:=rfl
  show(a.cells++dM r)[_]?= _
  cases j with
  |zero=>
   simp at h;subst h
   have:=(List.getElem?_eq_some_iff.1 hu).1
   rw[List.getElem?_append_left (by omega),Nat.zero_mul,Nat.zero_add];exact hu
  |succ j=>
   rw[List.getElem?_append_right (by omega),c,show(j+1)*9+i-9=j*9+i by omega];exact ih j y (by simpa using h) i u hu
theorem dG.own {w:World} {a n:Nat} {v:Value} {xs:List aD} (h:w.ownsRow a 61 9 v n (dM xs)) (hn:n=xs.length):dG w v xs:=by
 subst hn
 by_cases c:xs=[]
 ·subst c
  exact .inl ⟨rfl,lX h⟩
 ·obtain⟨g,b,z,rfl,hc,hb,e⟩:=ba h (List.length_pos_iff.2 c)
  refine .inr ⟨g,0,b,rfl,hc,e.lt,fun j x f i u hu=> ?_⟩;refine e.cell ?_;have d:=yL xs j x f i u hu;rw[Nat.zero_add,List.getElem?_append_left (List.getElem?_eq_some_iff.1 d).1];exact d
theorem fg:(prog.info? 61).map (fun i=>(i.zero,i.size,i.bytes))=some (some (.agg (aD.cells ⟨Rec.zero,⟨#[]⟩⟩).toArray),9,96):=by kernel_rfl
theorem aD.cells_one (x:aD):∀v∈x.cells,v.oneCell'=true:=by intro v a;simp[aD.cells]at a;rcases a with rfl|rfl|rfl|rfl|rfl|rfl|rfl|rfl|rfl<;>rfl
theorem Fa (l:List aD):∀v∈dM l,v.oneCell'=true:=by
 intro v a;obtain⟨x,_,b⟩:=List.mem_flatMap.1 a;exact aD.cells_one x v b
theorem dG.take {w:World} {g o n c:Nat} {l:List aD} (h:dG w (.slice (some ⟨g,o,none⟩) n c) l) (b:g<w.heap.size) (hn:n=l.length) (hc:n≤c) (f:∀(j:Nat) (x:aD),l[j]?=some x→w.rangeAt g (o+j*9) x.cells) {k:Nat} (e:k≤l.length):dG w (.slice (some ⟨g,o,none⟩) k c) (l.take k):=by
 refine .inr ⟨g,o,c,by rw[List.length_take,Nat.min_eq_left e],by rw[List.length_take];omega,b,fun j x a=> ?_⟩
 by_cases d:j<k
 ·rw[List.getElem?_take_of_lt d]at a;exact f j x a
 ·rw[List.getElem?_eq_none (by rw[List.length_take];omega)]at a;simp at a
structure lB (w:World) (g o n c:Nat) (l:List aD):Prop where
 len:n=l.length
 cap:n≤c
 lt:g<w.heap.size
 at_:∀(j:Nat) (x:aD),l[j]?=some x→w.rangeAt g (o+j*9) x.cells
theorem lB.below {w a:World} {g o n c:Nat} {l:List aD} (h:lB w g o n c l) {B:Nat} (hb:Below B w a) (d:w.heap.size≤B):lB a g o n c l:=
 ⟨h.len,h.cap,by have:=hb.size;have:=h.lt;omega,fun j x b i u hu=>by rw[hb.cell (by show g<B;have:=h.lt;omega)];exact h.at_ j x b i u hu⟩
theorem lB.take {w:World} {g o n c:Nat} {l:List aD} (h:lB w g o n c l) {k:Nat} (f:k≤n):dG w (.slice (some ⟨g,o,none⟩) k c) (l.take k):=by
 have d:=h.len;have e:=h.cap;refine .inr ⟨g,o,c,by rw[List.length_take,Nat.min_eq_left (by omega)],by rw[List.length_take];omega,h.lt,fun j x a=> ?_⟩
 by_cases b:j<k
 ·rw[List.getElem?_take_of_lt b]at a;exact h.at_ j x a
 ·rw[List.getElem?_eq_none (by rw[List.length_take];omega)]at a;simp at a
theorem lB.row {w:World} {g o n c:Nat} {l:List aD} (h:lB w g o n c l):dG w (.slice (some ⟨g,o,none⟩) n c) l:=by
 have:=h.take (k:=n) (Nat.le_refl _)
 rwa[List.take_of_length_le (by have:=h.len;omega)]at this
open Go.Maps Go.WideMaps
def Ty (w:World) (b:Nat) (t:TypeId):Prop:=∃cs fz,w.heap[b]?=some (.cells cs t fz)
def bQ (w:World) (S:List Nat) (T:List TypeId):Prop:=∀x,x∈S→∃t,t∈T∧Ty w x t
theorem ac.ty {w:World} {b:Nat} {cs:List Value} {t:TypeId} (h:ac w b cs t):Ty w b t:=⟨_,_,h⟩
theorem aN {w:World} {a size n:Nat} {e:TypeId} {v:Value} {xs:List Value} (h:w.ownsRow a e size v n xs) {k:Nat} (b:v.ownBlock=some k):Ty w k e:=by
 rcases h.2 with⟨rfl,_⟩|⟨g,cap,cur,rfl,_,hg,_⟩
 ·cases b
 ·injection b with b;subst b;exact⟨_,_,hg⟩
theorem Ty.eq {w:World} {b:Nat} {t t':TypeId} (h:Ty w b t) (k:Ty w b t'):t=t':=by
 obtain⟨_,_,h⟩:=h;obtain⟨_,_,k⟩:=k;rw[h]at k
 injection k with k
 injection k
theorem Ty.notin {w:World} {b:Nat} {t:TypeId} {S:List Nat} {T:List TypeId} (h:Ty w b t) (d:bQ w S T) (f:t∉T):b∉S:=fun e=>by
 obtain⟨g,a,c⟩:=d b e;exact f (h.eq c ▸ a)
theorem kT {w:World} {k:TypeId} {R:Value→Option (DataW Unit×List MemPlace)} {b n:Nat} {D:DataW Unit} {S:List Nat} {T:List TypeId} (h:w.ownsMap prog k R b n D) (e:bQ w S T):b∉S:=fun f=>by
 obtain⟨i,_,_,_,c⟩:=e b f;obtain⟨g,a,d,_⟩:=h;rw[d]at c
 cases c
theorem ez {w:World} {b c d n:Nat} {U L G:DataW Unit} {S:List Nat} {T:List TypeId} (h:bf w b c d n U L G) (a:bQ w S T):∀x,x=b∨x=c∨x=d→x∉S:=by
 rintro x (rfl|rfl|rfl)
 ·exact kT h.u a
 ·exact kT h.l a
 ·exact kT h.g a
theorem aC.tyIn {w:World} {b:Nat} {d:am} (h:aC w b d):bQ w (d.foot b) [78,9,109]:=by
 intro x a;simp only[am.foot,List.mem_cons,List.mem_append,Option.mem_toList,Option.mem_def]at a
 rcases a with rfl|a|a
 ·exact⟨_,by simp,h.blk.ty⟩
 ·exact⟨_,by simp,aN h.rb a⟩
 ·exact⟨_,by simp,aN h.rc a⟩
theorem bQ.one {w:World} {b:Nat} {t:TypeId} (h:Ty w b t):bQ w [b] [t]:=by intro x a;simp at a;subst a;exact⟨t,by simp,h⟩
theorem bQ.cons {w:World} {b:Nat} {t:TypeId} {S:List Nat} {T:List TypeId} (h:Ty w b t) (k:bQ w S T):bQ w (b::S) (t::T):=by
 intro x a
 rcases List.mem_cons.1 a with rfl|a
 ·exact⟨t,by simp,h⟩
 ·obtain⟨e,c,d⟩:=k x a
  exact⟨e,List.mem_cons_of_mem _ c,d⟩
theorem bQ.own {w:World} {a size n:Nat} {e:TypeId} {v:Value} {xs:List Value} (h:w.ownsRow a e size v n xs):bQ w v.ownBlock.toList [e]:=by
 intro x b;exact⟨e,by simp,aN h (by simpa using b)⟩
theorem iZ {w:World} {b:Nat} {d:am} {S:List Nat} {T:List TypeId} (h:aC w b d) (g:bQ w S T) (j:∀t,t∈T→t≠78∧t≠9∧t≠109):∀x,x∈d.foot b→x∉S:=by
 intro x k i;obtain⟨t,c,e⟩:=g x i;obtain⟨l,a,f⟩:=h.tyIn x k;obtain rfl:=e.eq f
 have:=j t c
 simp at a
 rcases a with a|a|a
 ·exact this.1 a
 ·exact this.2.1 a
 ·exact this.2.2 a
structure ai where
 key:ByteArray
 data:ByteArray
 last:aF
 used:Int
 vers:List ag
 sealed:List aD
 first:Int
 epoch:Int
 now:Int
 clock:Int
 U:DataW Unit
 L:DataW Unit
 G:DataW Unit
 n:Nat
 d:am
structure ap where
 vb:Nat
 jb:Nat
 sb:Nat
 db:Nat
 xb:Nat
 bb:Nat
 c2:Nat
 cb:Nat
 m1:Nat
 m2:Nat
 m3:Nat
 xv:Value
 sv:Value
 rv:Value
def jA (i:ap) (key data:ByteArray):List Value:=[.pointer (some ⟨i.jb,0,none⟩), .string key, .string data, .pointer (some ⟨i.xb,0,none⟩),i.sv, .pointer (some ⟨i.bb,0,none⟩), .pointer (some ⟨i.cb,0,none⟩),i.rv]
structure al (w:World) (i:ap) (v:ai):Prop where
 vol:ac w i.vb (jA i v.key v.data) 104
 jour:ac w i.jb (bR (.pointer (some ⟨i.sb,0,none⟩)) i.db v.last) 165
 space:ac w i.sb (bL v.last.geo v.used) 242
 disk:aC w i.db v.d
 index:ac w i.xb [.bool true,i.xv] 238
 vers:w.ownsRow 0 130 3 i.xv v.vers.length (ar v.vers)
 sealed:w.ownsRow 0 61 9 i.sv v.sealed.length (dM v.sealed)
 book:ac w i.bb (aT i.c2 v.first v.epoch i.m1 i.m2 i.m3) 193
 bclock:ac w i.c2 [.bool true, .int .i64 v.now] 188
 clock:ac w i.cb [.bool true, .int .i64 v.clock] 188
 maps:bf w i.m1 i.m2 i.m3 v.n v.U v.L v.G
 two:i.c2≠i.cb
 rp:∃p,i.rv= .pointer p
theorem al.below {w w':World} {i:ap} {v:ai} (h:al w i v) (hb:Below w.heap.size w w'):al w' i v:=by
 have t:af [] w w':=af.of_below hb (Nat.le_refl _);have a:bQ w [] []:=fun x c=>by cases c
 exact⟨t.blk h.vol (h.vol.ty.notin a (by decide)),t.blk h.jour (h.jour.ty.notin a (by decide)),t.blk h.space (h.space.ty.notin a (by decide)),h.disk.turned t (iZ h.disk a (by decide)),t.blk h.index (h.index.ty.notin a (by decide)),ay h.vers t (fun k b=>(aN h.vers b).notin a (by decide)),ay h.sealed t (fun k b=>(aN h.sealed b).notin a (by decide)),t.blk h.book (h.book.ty.notin a (by decide)),t.blk h.bclock (h.bclock.ty.notin a (by decide)),t.blk h.clock (h.clock.ty.notin a (by decide)),h.maps.turned t (ez h.maps a),h.two,h.rp⟩
def ap.foot (i:ap) (d:am):List Nat:=[i.vb,i.jb,i.sb,i.xb,i.bb,i.c2,i.cb,i.m1,i.m2,i.m3]++(d.foot i.db++(i.xv.ownBlock.toList++i.sv.ownBlock.toList))
structure aJ (w w':World) (i:ap) (v:ai) (i':ap) (v':ai):Prop where
 at':al w' i' v'
 turned:af (i.foot v.d) w w'
 foot:∀x,x∈i'.foot v'.d→x∈i.foot v.d∨w.heap.size≤x
theorem aJ.refl {w:World} {i:ap} {v:ai} (h:al w i v):aJ w w i v i v:=⟨h,af.refl _ _,fun _ hx=> .inl hx⟩
theorem aJ.trans {e f g:World} {i c a:ap} {v d v'':ai} (h:aJ e f i v c d) (k:aJ f g c d a v''):aJ e g i v a v'':=
 ⟨k.at',h.turned.on k.turned h.foot,fun x j=>(k.foot x j).elim (fun b=>h.foot x b) (fun b=> .inr (Nat.le_trans h.turned.size b))⟩
theorem aJ.below {c a d:World} {i b:ap} {v v':ai} (h:aJ c a i v b v') (hb:Below a.heap.size a d):aJ c d i v b v':=
 ⟨h.at'.below hb,h.turned.trans (af.of_below hb (Nat.le_refl _)),h.foot⟩
theorem aJ.ahead {a c d:World} {i b:ap} {v v':ai} (hb:Below a.heap.size a c) (h:aJ c d i v b v'):aJ a d i v b v':=
 ⟨h.at',(af.of_below hb (Nat.le_refl _)).trans h.turned,fun x f=>(h.foot x f).elim .inl (fun e=> .inr (Nat.le_trans hb.size e))⟩
theorem al.disk_to {w g:World} {i:ap} {v:ai} {f:am} (h:al w i v) (e:bg w g i.db v.d f):aJ w g i v i {v with d:=f}:=by
 have t:=e.turned;have a:=h.disk.tyIn;refine⟨⟨t.blk h.vol (h.vol.ty.notin a (by decide)),t.blk h.jour (h.jour.ty.notin a (by decide)),t.blk h.space (h.space.ty.notin a (by decide)),e.at',t.blk h.index (h.index.ty.notin a (by decide)),ay h.vers t (fun k c=>(aN h.vers c).notin a (by decide)),ay h.sealed t (fun k c=>(aN h.sealed c).notin a (by decide)),t.blk h.book (h.book.ty.notin a (by decide)),t.blk h.bclock (h.bclock.ty.notin a (by decide)),t.blk h.clock (h.clock.ty.notin a (by decide)),h.maps.turned t (ez h.maps a),h.two,h.rp⟩,t.mono (fun x b=>by simp only[ap.foot,List.mem_append];exact .inr (.inl b)),fun x b=> ?_⟩;simp only[ap.foot,List.mem_append]at b ⊢
 rcases b with b|b|b
 ·exact .inl (.inl b)
 ·exact(e.foot x b).imp (fun h=> .inr (.inl h)) id
 ·exact .inl (.inr (.inr b))
theorem al.jdisk {w c:World} {i:ap} {v:ai} {e:am} {s:aF} (h:al w i v) (t:af (i.jb::v.d.foot i.db) w c) (l:s.geo=v.last.geo) (hd:aC c i.db e) (m:ac c i.jb (bR (.pointer (some ⟨i.sb,0,none⟩)) i.db s) 165) (j:∀x,x∈e.foot i.db→x∈v.d.foot i.db∨w.heap.size≤x):aJ w c i v i {v with d:=e,last:=s}:=by
 have b:=bQ.cons h.jour.ty h.disk.tyIn;have g:ac c i.sb (bL s.geo v.used) 242:=by rw[l];exact t.blk h.space (h.space.ty.notin b (by decide))
 refine⟨⟨t.blk h.vol (h.vol.ty.notin b (by decide)),m,g,hd,t.blk h.index (h.index.ty.notin b (by decide)),ay h.vers t (fun k f=>(aN h.vers f).notin b (by decide)),ay h.sealed t (fun k f=>(aN h.sealed f).notin b (by decide)),t.blk h.book (h.book.ty.notin b (by decide)),t.blk h.bclock (h.bclock.ty.notin b (by decide)),t.blk h.clock (h.clock.ty.notin b (by decide)),h.maps.turned t (ez h.maps b),h.two,h.rp⟩,t.mono (fun x a=> ?_),fun x a=> ?_⟩
 ·simp only[ap.foot,List.mem_append]
  rcases List.mem_cons.1 a with rfl|a
  ·exact .inl (by simp)
  ·exact .inr (.inl a)
 ·simp only[ap.foot,List.mem_append]at a ⊢
  rcases a with a|a|a
  ·exact .inl (.inl a)
  ·exact(j x a).imp (fun h=> .inr (.inl h)) id
  ·exact .inl (.inr (.inr a))
theorem al.take {w d:World} {i:ap} {v:ai} {n:Int} (h:al w i v) (t:af [i.sb] w d) (e:ac d i.sb (bL v.last.geo n) 242):aJ w d i v i {v with used:=n}:=by
 have a:=bQ.one h.space.ty;exact⟨⟨t.blk h.vol (h.vol.ty.notin a (by decide)),t.blk h.jour (h.jour.ty.notin a (by decide)),e,h.disk.turned t (iZ h.disk a (by decide)),t.blk h.index (h.index.ty.notin a (by decide)),ay h.vers t (fun k c=>(aN h.vers c).notin a (by decide)),ay h.sealed t (fun k c=>(aN h.sealed c).notin a (by decide)),t.blk h.book (h.book.ty.notin a (by decide)),t.blk h.bclock (h.bclock.ty.notin a (by decide)),t.blk h.clock (h.clock.ty.notin a (by decide)),h.maps.turned t (ez h.maps a),h.two,h.rp⟩,t.mono (fun x b=>by simp at b;subst b;simp[ap.foot]),fun x b=> .inl b⟩
theorem al.idx {w c:World} {i:ap} {v:ai} {xv:Value} {l:List ag} (h:al w i v) (t:af (i.xb::i.xv.ownBlock.toList) w c) (a:ac c i.xb [.bool true,xv] 238) (e:c.ownsRow 0 130 3 xv l.length (ar l)) (hn:∀k,xv.ownBlock=some k→i.xv.ownBlock=some k∨w.heap.size≤k):aJ w c i v {i with xv:=xv} {v with vers:=l}:=by
 have b:=bQ.cons h.index.ty (bQ.own h.vers);refine⟨⟨t.blk h.vol (h.vol.ty.notin b (by decide)),t.blk h.jour (h.jour.ty.notin b (by decide)),t.blk h.space (h.space.ty.notin b (by decide)),h.disk.turned t (iZ h.disk b (by decide)),a,e,ay h.sealed t (fun k d=>(aN h.sealed d).notin b (by decide)),t.blk h.book (h.book.ty.notin b (by decide)),t.blk h.bclock (h.bclock.ty.notin b (by decide)),t.blk h.clock (h.clock.ty.notin b (by decide)),h.maps.turned t (ez h.maps b),h.two,h.rp⟩,t.mono (fun x a=> ?_),fun x a=> ?_⟩
 ·rcases List.mem_cons.1 a with rfl|a
  ·simp[ap.foot]
  ·simp only[ap.foot,List.mem_append];exact .inr (.inr (.inl a))
 ·simp only[ap.foot,List.mem_append]at a ⊢
  rcases a with a|a|a|a
  ·exact .inl (.inl a)
  ·exact .inl (.inr (.inl a))
  ·exact(hn x (by simpa using a)).imp (fun h=> .inr (.inr (.inl (by simpa using h)))) id
  ·exact .inl (.inr (.inr (.inr a)))
theorem al.closed {w c:World} {i:ap} {v:ai} {ep now:Int} (h:al w i v) (t:af [i.bb,i.c2] w c) (hb:ac c i.bb (aT i.c2 v.first ep i.m1 i.m2 i.m3) 193) (hc:ac c i.c2 [.bool true, .int .i64 now] 188):aJ w c i v i {v with epoch:=ep,now:=now}:=by
 have a:=bQ.cons h.book.ty (bQ.one h.bclock.ty)
 have e:ac c i.cb [.bool true, .int .i64 v.clock] 188:=t.blk h.clock (by
  intro b;simp at b
  rcases b with b|b
  ·exact absurd (show 188=193 from(b ▸ h.clock.ty).eq h.book.ty) (by decide)
  ·exact h.two b.symm)
 exact⟨⟨t.blk h.vol (h.vol.ty.notin a (by decide)),t.blk h.jour (h.jour.ty.notin a (by decide)),t.blk h.space (h.space.ty.notin a (by decide)),h.disk.turned t (iZ h.disk a (by decide)),t.blk h.index (h.index.ty.notin a (by decide)),ay h.vers t (fun k f=>(aN h.vers f).notin a (by decide)),ay h.sealed t (fun k f=>(aN h.sealed f).notin a (by decide)),hb,hc,e,h.maps.turned t (ez h.maps a),h.two,h.rp⟩,t.mono (fun x d=>by simp at d;rcases d with rfl|rfl<;>simp[ap.foot]),fun x d=> .inl d⟩
theorem al.own {w c:World} {i:ap} {v:ai} {key:ByteArray} {sv:Value} {l:List aD} (h:al w i v) (t:af (i.vb::i.sv.ownBlock.toList) w c) (f:ac c i.vb (jA {i with sv:=sv} key v.data) 104) (e:c.ownsRow 0 61 9 sv l.length (dM l)) (hn:∀k,sv.ownBlock=some k→i.sv.ownBlock=some k∨w.heap.size≤k):aJ w c i v {i with sv:=sv} {v with key:=key,sealed:=l}:=by
 have b:=bQ.cons h.vol.ty (bQ.own h.sealed);refine⟨⟨f,t.blk h.jour (h.jour.ty.notin b (by decide)),t.blk h.space (h.space.ty.notin b (by decide)),h.disk.turned t (iZ h.disk b (by decide)),t.blk h.index (h.index.ty.notin b (by decide)),ay h.vers t (fun k d=>(aN h.vers d).notin b (by decide)),e,t.blk h.book (h.book.ty.notin b (by decide)),t.blk h.bclock (h.bclock.ty.notin b (by decide)),t.blk h.clock (h.clock.ty.notin b (by decide)),h.maps.turned t (ez h.maps b),h.two,h.rp⟩,t.mono (fun x a=> ?_),fun x a=> ?_⟩
 ·rcases List.mem_cons.1 a with rfl|a
  ·simp[ap.foot]
  ·simp only[ap.foot,List.mem_append];exact .inr (.inr (.inr a))
 ·simp only[ap.foot,List.mem_append]at a ⊢
  rcases a with a|a|a|a
  ·exact .inl (.inl a)
  ·exact .inl (.inr (.inl a))
  ·exact .inl (.inr (.inr (.inl a)))
  ·exact(hn x (by simpa using a)).imp (fun h=> .inr (.inr (.inr (by simpa using h)))) id
def cH (key data:ByteArray) (gen clock n lbas first ep:Int) (d:am):ai:=⟨key,data,⟨gen,0,ep,clock,⟨n,lbas,first⟩⟩,0,[],[],first,ep,0,clock, .map [], .map [], .map [],0,d⟩
def nP (vb jb sb db xb bb cb c2 m1 m2 m3:Nat) (ro:Option Addr):ap:=⟨vb,jb,sb,db,xb,bb,c2,cb,m1,m2,m3, .slice none 0 0, .slice none 0 0, .pointer ro⟩
theorem fJ.at {w:World} {u s l r k t j g f m p q:Nat} {i:Option Addr} {key b:ByteArray} {e a n c first ep:Int} {d:am} (h:fJ w u s l r k t j g f m p q i key b e a n c first ep d):al w (nP s l r k t j g f m p q i) (cH key b e a n c first ep d):=
 ⟨h.vol,h.jour,h.space,h.disk,h.index,World.ownsRow_nil w 0 130 3,World.ownsRow_nil w 0 61 9,h.book,h.bclock,h.clock,h.maps,by show f≠g;have:=h.o;omega,i,rfl⟩
theorem fJ.foot_ge {w:World} {p c v m u g y j l k q r s:Nat} {t:Option Addr} {key e:ByteArray} {i a n f first ep:Int} {d:am} (h:fJ w p v m u g y j l k q r s t key e i a n f first ep d) (hl:c≤p) (hd:∀x,x∈d.foot g→c≤x):∀x,x∈(nP v m u g y j l k q r s t).foot d→c≤x:=by
 intro x b;have A:=h.o;have z:=h.om;simp only[ap.foot,nP,Value.ownBlock,List.mem_append,List.mem_cons,List.not_mem_nil,or_false,Option.mem_toList,Option.mem_def]at b
 rcases b with(rfl|rfl|rfl|rfl|rfl|rfl|rfl|rfl|rfl|rfl)|b|b|b<;>first|omega|exact hd x b|cases b
structure Calm (d:am) (n m:Nat):Prop where
 up:d.down=false
 left:d.left=0
 len:d.bs.length=n
 hin:∀(j:Nat) p,d.cs[j]?=some p→0≤p.1∧p.1<d.bs.length
 few:d.cs.length≤m
theorem Calm.mono {d:am} {n m m':Nat} (h:Calm d n m) (a:m≤m'):Calm d n m':=⟨h.up,h.left,h.len,h.hin,Nat.le_trans h.few a⟩
theorem Calm.put {d:am} {n m:Nat} (h:Calm d n m) {i:Int} (c:0≤i) (e:i<n) (cv:Value) (s:ByteArray):Calm {d with cv:=cv,cs:=d.cs++[(i,s)]} n (m+1):=by
 refine⟨h.up,h.left,h.len,fun j p a=> ?_,by simp only[List.length_append,List.length_cons,List.length_nil];have:=h.few;omega⟩;simp only at a ⊢
 by_cases b:j<d.cs.length
 ·rw[List.getElem?_append_left b]at a;exact h.hin j p a
 ·rw[List.getElem?_append_right (by omega)]at a
  have:j-d.cs.length=0:=by
   rcases Nat.eq_zero_or_pos (j-d.cs.length)with h2|h2
   ·exact h2
   ·rw[List.getElem?_eq_none (by simp;omega)]at a;cases a
  rw[this]at a;simp at a;subst a;exact⟨c,by simp only;rw[h.len];exact e⟩
theorem Calm.flushed {d:am} {n m:Nat} (h:Calm d n m):Calm d.flushed n 0:=
 ⟨h.up,h.left,by show(eT d.bs d.cs d.cs.length).length=n;rw[dB];exact h.len,fun j p a=>by simp[am.flushed]at a,Nat.le_refl _⟩
theorem sX (cs l:List (Int×ByteArray)) (i:Int):∀k,k≤cs.length→eS (cs++l) i k=eS cs i k
 |0,_=>rfl
 |k+1,h=>by
  unfold eS;rw[List.getD,List.getD,List.getElem?_append_left (by omega),sX cs l i k (by omega)]
theorem AS (cs:List (Int×ByteArray)) (p:Int×ByteArray) (i:Int):eS (cs++[p]) i (cs.length+1)=if p.1=i then some p.2 else eS cs i cs.length:=by
 show(if((cs++[p]).getD cs.length (0,ByteArray.empty)).1=i then some ((cs++[p]).getD cs.length (0,ByteArray.empty)).2 else eS (cs++[p]) i cs.length)= _
 have e:(cs++[p]).getD cs.length (0,ByteArray.empty)=p:=by rw[List.getD,List.getElem?_append_right (Nat.le_refl _)];simp
 rw[e,sX cs [p] i cs.length (Nat.le_refl _)]
theorem dr (d:am) (cv:Value) (j i:Int) (s:ByteArray):({d with cv:=cv,cs:=d.cs++[(j,s)]}:am).shown i=if j=i then s else d.shown i:=by
 unfold am.shown;simp only[List.length_append,List.length_cons,List.length_nil,Nat.zero_add];rw[AS]
 split
 ·rfl
 ·rfl
theorem vS (b:List ByteArray) (cs:List (Int×ByteArray)) (a:∀(j:Nat) p,cs[j]?=some p→0≤p.1∧p.1<b.length) (i:Int) (f:0≤i):∀k,k≤cs.length→(eT b cs k).getD i.toNat ByteArray.empty=(eS cs i k).getD (b.getD i.toNat ByteArray.empty)
 |0,_=>rfl
 |k+1,h=>by
  have d:cs[k]?=some cs[k]:=List.getElem?_eq_getElem (by omega);have hp:=a k _ d;have ih:=vS b cs a i f k (by omega);unfold eT eS;have e:cs.getD k (0,ByteArray.empty)=cs[k]:=by rw[List.getD,d];rfl
  rw[e]
  by_cases c:cs[k].1=i
  ·rw[if_pos c,List.getD,c,List.getElem?_set_self (by rw[dB];omega)]
   rfl
  ·rw[if_neg c,List.getD,List.getElem?_set_ne (by omega)]
   exact ih
theorem dj {d:am} {n m:Nat} (h:Calm d n m) (i:Int) (a:0≤i):d.flushed.shown i=d.shown i:=by
 show(eS [] i 0).getD ((eT d.bs d.cs d.cs.length).getD i.toNat ByteArray.empty)= _
 rw[vS d.bs d.cs h.hin i a _ (Nat.le_refl _)]
 rfl
theorem pL (q A g c N m:Nat) (f j l:Nat) (C:Int) (B:ByteArray) (t:TypeId) (d:am) (w:World) (h:aC w A d) (o:ac w g [.func (.func 187) #[] #[.pointer (some ⟨f,0,none⟩), .pointer (some ⟨j,0,none⟩), .pointer (some ⟨l,0,none⟩)]] t) (Y:w.cell? ⟨q,1,none⟩=some (.pointer (some ⟨A,0,none⟩))) (L:q<w.heap.size) (p:fU w q f j l C B)
  (hn:∀x,x=g∨x=q∨x=f∨x=j∨x=l→x∉d.foot A)
  (J:Calm d N m) (Z:m+1≤4096) (X:N≤1024) (K:0≤C∧C<(N:Int)) (M:B.size=4096):
  Calls prog 96 #[.pointer (some ⟨q,0,none⟩), .slice (some ⟨g,0,none⟩) 1 c] w fun e w'=>e= .returned (.int .i64 0)∧∃d',(∃cv,d'={d with cv:=cv,cs:=d.cs++[(C,B)]})∧bg w w' A d d':=by
 have HH:=hid h;have HR:=hid o;have HJ:=hid Y;have F:=hid p;have b:=hid K;have U:=hid M;have E:=hid hn;have D:=hid J;have S:=hid (And.intro Z X);have Q:=hid L;clear h o Y hn J Z X L p K M;go_enter func96,ntmps96;go_wp2_with fail;go_loopw [10] (fun v wr=>∃(k:Nat) (d':am),k≤1∧v= .int .i64 k∧((k=0→d'=d)∧(k=1→(∃cv,d'={d with cv:=cv,cs:=d.cs++[(C,B)]})))∧Calm d' N (m+1)∧(k=0→Calm d' N m)∧(k=1→Calm d' N (m+1))∧bg w wr A d d') (fun v _=>1-(intOf v).toNat)
 case atStart=>exact⟨0,d,by omega,rfl,⟨fun _=>rfl,fun h=>(by cases h)⟩,D.mono (by omega),fun _=>D.out,fun h=>(by cases h),bg.refl HH.out⟩
 case round=>
  obtain⟨k,d',W,rfl,a,I,G,H,P⟩:=hrel;have n:=hid P;have u:=hid a;have s:=hid I;have r:=hid G;have ad:=hid H;clear P a I G H;have T:=hid (n.turned.blk HR.out (E.out g (by simp)));have R:=hid (show wr.cell? ⟨q,1,none⟩=some (.pointer (some ⟨A,0,none⟩)) by rw[n.turned.cell Q.out (E.out q (by simp))];exact HJ.out);have y:=hid (F.turned n.turned (E.out f (by simp)) (E.out j (by simp)) (E.out l (by simp)))
  match k,W with
  |0,W=>
   have ck:=T.cell (i:=0) rfl;go_wp2_with fail;obtain rfl:d'=d:=u.out.1 (by trivial)
   refine(gQ q A f j l _ C B _ n.at' R.out y.out s.up s.left (by have:=(r.out (by trivial)).few;have:=S.out.1;omega) b.out.1 (by rw[s.len];exact b.out.2) U.out).mono ?_
   rintro e w2 ⟨rfl,z,O⟩;have V:=hid O;clear O;go_wp2_with fail;go_roundw
   case rel=>exact⟨1,_,by omega,rfl,⟨fun h=>(by cases h),fun _=>⟨z,rfl⟩⟩,((r.out (by trivial)).put b.out.1 b.out.2 z B).mono (by omega),fun h=>(by cases h),fun _=>((r.out (by trivial)).put b.out.1 b.out.2 z B),n.trans V.out⟩
   case measure=>simp[intOf]
  |1,W=>
   go_wp2_with fail;go_ret
   first
    |exact⟨rfl,d',u.out.2 (by trivial),n.out⟩
    |(have he:=u.out.2 (by trivial);subst he;first|exact⟨rfl,n.out⟩|exact⟨rfl,by have O:=n.out;simp only[List.append_assoc,List.cons_append,List.nil_append]at O;exact O⟩)
theorem uM (C B g c N m:Nat) (r u z:Nat) (J:Int) (E:ByteArray) (s y A:Nat) (R:Int) (K:ByteArray) (t:TypeId) (d:am) (w:World) (h:aC w B d) (G:ac w g [.func (.func 187) #[] #[.pointer (some ⟨r,0,none⟩), .pointer (some ⟨u,0,none⟩), .pointer (some ⟨z,0,none⟩)], .func (.func 187) #[] #[.pointer (some ⟨s,0,none⟩), .pointer (some ⟨y,0,none⟩), .pointer (some ⟨A,0,none⟩)], .func (.func 100) #[.pointer (some ⟨B,0,none⟩)] #[]] t) (hj:w.cell? ⟨C,1,none⟩=some (.pointer (some ⟨B,0,none⟩))) (aq:C<w.heap.size) (H:fU w C r u z J E) (I:fU w C s y A R K)
  (hn:∀x,x=g∨x=C∨x=r∨x=u∨x=z∨x=s∨x=y∨x=A→x∉d.foot B)
  (Z:Calm d N m) (hm:m+2≤4096) (hN:N≤1024) (ad:0≤J∧J<(N:Int)) (a0:E.size=4096) (an:0≤R∧R<(N:Int)) (a1:K.size=4096):
  Calls prog 96 #[.pointer (some ⟨C,0,none⟩), .slice (some ⟨g,0,none⟩) 3 c] w fun e w'=>e= .returned (.int .i64 0)∧∃d',d'=({d with cs:=d.cs++[(J,E)]++[(R,K)]}:am).flushed∧bg w w' B d d':=by
 have HH:=hid h;have HR:=hid G;have HJ:=hid hj;have U:=hid H;have j:=hid ad;have a4:=hid a0;have V:=hid I;have l:=hid an;have a5:=hid a1;have F:=hid hn;have S:=hid Z;have D:=hid (And.intro hm hN);have a3:=hid aq;clear h G hj hn Z hm hN aq H ad a0 I an a1;go_enter func96,ntmps96;go_wp2_with fail;go_loopw [10] (fun v wr=>∃(k:Nat) (d':am),k≤3∧v= .int .i64 k∧((k=0→d'=d)∧(k=1→(∃cv,d'={d with cv:=cv,cs:=d.cs++[(J,E)]}))∧(k=2→(∃cv,d'={d with cv:=cv,cs:=d.cs++[(J,E)]++[(R,K)]}))∧(k=3→d'=({d with cs:=d.cs++[(J,E)]++[(R,K)]}:am).flushed))∧Calm d' N (m+2)∧(k=0→Calm d' N m)∧(k=1→Calm d' N (m+1))∧(k=2→Calm d' N (m+2))∧bg w wr B d d') (fun v _=>3-(intOf v).toNat)
 case atStart=>exact⟨0,d,by omega,rfl,⟨fun _=>rfl,fun h=>(by cases h),fun h=>(by cases h),fun h=>(by cases h)⟩,S.mono (by omega),fun _=>S.out,fun h=>(by cases h),fun h=>(by cases h),bg.refl HH.out⟩
 case round=>
  obtain⟨k,d',hk,rfl,f,Y,W,X,hc2,a2⟩:=hrel;have n:=hid a2;have o:=hid f;have a:=hid Y;have L:=hid W;have M:=hid X;have be:=hid hc2;clear a2 f Y W X hc2;have O:=hid (n.turned.blk HR.out (F.out g (by simp)));have T:=hid (show wr.cell? ⟨C,1,none⟩=some (.pointer (some ⟨B,0,none⟩)) by rw[n.turned.cell a3.out (F.out C (by simp))];exact HJ.out);have P:=hid (U.turned n.turned (F.out r (by simp)) (F.out u (by simp)) (F.out z (by simp)));have Q:=hid (V.turned n.turned (F.out s (by simp)) (F.out y (by simp)) (F.out A (by simp)))
  match k,hk with
  |0,hk=>
   have ck:=O.cell (i:=0) rfl;go_wp2_with fail;obtain rfl:d'=d:=o.out.1 (by trivial)
   refine(gQ C B r u z _ J E _ n.at' T.out P.out a.up a.left (by have:=(L.out (by trivial)).few;have:=D.out.1;omega) j.out.1 (by rw[a.len];exact j.out.2) a4.out).mono ?_
   rintro e w2 ⟨rfl,b,q⟩;have p:=hid q;clear q;go_wp2_with fail;go_roundw
   case rel=>exact⟨1,_,by omega,rfl,⟨fun h=>(by cases h),fun _=>⟨b,rfl⟩,fun h=>(by cases h),fun h=>(by cases h)⟩,((L.out (by trivial)).put j.out.1 j.out.2 b E).mono (by omega),fun h=>(by cases h),fun _=>((L.out (by trivial)).put j.out.1 j.out.2 b E),fun h=>(by cases h),n.trans p.out⟩
   case measure=>simp[intOf]
  |1,hk=>
   have ck:=O.cell (i:=1) rfl;go_wp2_with fail;obtain⟨a6,rfl⟩:=o.out.2.1 (by trivial)
   refine(gQ C B s y A _ R K _ n.at' T.out Q.out a.up a.left (by have:=(M.out (by trivial)).few;have:=D.out.1;omega) l.out.1 (by rw[a.len];exact l.out.2) a5.out).mono ?_
   rintro e w2 ⟨rfl,b,q⟩;have p:=hid q;clear q;go_wp2_with fail;go_roundw
   case rel=>exact⟨2,_,by omega,rfl,⟨fun h=>(by cases h),fun h=>(by cases h),fun _=>⟨b,rfl⟩,fun h=>(by cases h)⟩,((M.out (by trivial)).put l.out.1 l.out.2 b K).mono (by omega),fun h=>(by cases h),fun h=>(by cases h),fun _=>((M.out (by trivial)).put l.out.1 l.out.2 b K),n.trans p.out⟩
   case measure=>simp[intOf]
  |2,hk=>
   have ck:=O.cell (i:=2) rfl;go_wp2_with fail;obtain⟨a6,rfl⟩:=o.out.2.2.1 (by trivial)
   refine(iC B _ _ n.at' a.up a.left (by have:=a.few;have:=D.out.1;omega) (by have:=a.len;have:=D.out.2;omega) a.hin).mono ?_
   rintro e w2 ⟨rfl,q⟩;have p:=hid q;clear q;go_wp2_with fail;go_roundw
   case rel=>exact⟨3,_,by omega,rfl,⟨fun h=>(by cases h),fun h=>(by cases h),fun h=>(by cases h),fun _=>rfl⟩,a.flushed.mono (Nat.zero_le _),fun h=>(by cases h),fun h=>(by cases h),fun h=>(by cases h),n.trans p.out⟩
   case measure=>simp[intOf]
  |3,hk=>
   go_wp2_with fail;go_ret
   first
    |exact⟨rfl,d',o.out.2.2.2 (by trivial),n.out⟩
    |(have he:=o.out.2.2.2 (by trivial);subst he;first|exact⟨rfl,n.out⟩|exact⟨rfl,by have q:=n.out;simp only[List.append_assoc,List.cons_append,List.nil_append]at q;exact q⟩)
theorem xy (y q g c N m:Nat) (j l n:Nat) (F:Int) (z:ByteArray) (t:TypeId) (d:am) (w:World) (h:aC w q d) (r:ac w g [.func (.func 187) #[] #[.pointer (some ⟨j,0,none⟩), .pointer (some ⟨l,0,none⟩), .pointer (some ⟨n,0,none⟩)], .func (.func 100) #[.pointer (some ⟨q,0,none⟩)] #[]] t) (Y:w.cell? ⟨y,1,none⟩=some (.pointer (some ⟨q,0,none⟩))) (Q:y<w.heap.size) (s:fU w y j l n F z)
  (hn:∀x,x=g∨x=y∨x=j∨x=l∨x=n→x∉d.foot q)
  (O:Calm d N m) (Z:m+1≤4096) (X:N≤1024) (P:0≤F∧F<(N:Int)) (R:z.size=4096):
  Calls prog 96 #[.pointer (some ⟨y,0,none⟩), .slice (some ⟨g,0,none⟩) 2 c] w fun e w'=>e= .returned (.int .i64 0)∧∃d',d'=({d with cs:=d.cs++[(F,z)]}:am).flushed∧bg w w' q d d':=by
 have HH:=hid h;have HR:=hid r;have HJ:=hid Y;have J:=hid s;have f:=hid P;have W:=hid R;have H:=hid hn;have G:=hid O;have B:=hid (And.intro Z X);have U:=hid Q;clear h r Y hn O Z X Q s P R;go_enter func96,ntmps96;go_wp2_with fail;go_loopw [10] (fun v wr=>∃(k:Nat) (d':am),k≤2∧v= .int .i64 k∧((k=0→d'=d)∧(k=1→(∃cv,d'={d with cv:=cv,cs:=d.cs++[(F,z)]}))∧(k=2→d'=({d with cs:=d.cs++[(F,z)]}:am).flushed))∧Calm d' N (m+1)∧(k=0→Calm d' N m)∧(k=1→Calm d' N (m+1))∧bg w wr q d d') (fun v _=>2-(intOf v).toNat)
 case atStart=>exact⟨0,d,by omega,rfl,⟨fun _=>rfl,fun h=>(by cases h),fun h=>(by cases h)⟩,G.mono (by omega),fun _=>G.out,fun h=>(by cases h),bg.refl HH.out⟩
 case round=>
  obtain⟨k,d',T,rfl,b,M,K,L,S⟩:=hrel;have o:=hid S;have p:=hid b;have a:=hid M;have A:=hid K;have ad:=hid L;clear S b M K L;have I:=hid (o.turned.blk HR.out (H.out g (by simp)));have V:=hid (show wr.cell? ⟨y,1,none⟩=some (.pointer (some ⟨q,0,none⟩)) by rw[o.turned.cell U.out (H.out y (by simp))];exact HJ.out);have C:=hid (J.turned o.turned (H.out j (by simp)) (H.out l (by simp)) (H.out n (by simp)))
  match k,T with
  |0,T=>
   have ck:=I.cell (i:=0) rfl;go_wp2_with fail;obtain rfl:d'=d:=p.out.1 (by trivial)
   refine(gQ y q j l n _ F z _ o.at' V.out C.out a.up a.left (by have:=(A.out (by trivial)).few;have:=B.out.1;omega) f.out.1 (by rw[a.len];exact f.out.2) W.out).mono ?_
   rintro e w2 ⟨rfl,E,u⟩;have D:=hid u;clear u;go_wp2_with fail;go_roundw
   case rel=>exact⟨1,_,by omega,rfl,⟨fun h=>(by cases h),fun _=>⟨E,rfl⟩,fun h=>(by cases h)⟩,((A.out (by trivial)).put f.out.1 f.out.2 E z).mono (by omega),fun h=>(by cases h),fun _=>((A.out (by trivial)).put f.out.1 f.out.2 E z),o.trans D.out⟩
   case measure=>simp[intOf]
  |1,T=>
   have ck:=I.cell (i:=1) rfl;go_wp2_with fail;obtain⟨a1,rfl⟩:=p.out.2.1 (by trivial)
   refine(iC q _ _ o.at' a.up a.left (by have:=a.few;have:=B.out.1;omega) (by have:=a.len;have:=B.out.2;omega) a.hin).mono ?_
   rintro e w2 ⟨rfl,u⟩;have D:=hid u;clear u;go_wp2_with fail;go_roundw
   case rel=>exact⟨2,_,by omega,rfl,⟨fun h=>(by cases h),fun h=>(by cases h),fun _=>rfl⟩,a.flushed.mono (Nat.zero_le _),fun h=>(by cases h),fun h=>(by cases h),o.trans D.out⟩
   case measure=>simp[intOf]
  |2,T=>
   go_wp2_with fail;go_ret
   first
    |exact⟨rfl,d',p.out.2.2 (by trivial),o.out⟩
    |(have he:=p.out.2.2 (by trivial);subst he;first|exact⟨rfl,o.out⟩|exact⟨rfl,by have u:=o.out;simp only[List.append_assoc,List.cons_append,List.nil_append]at u;exact u⟩)
end Go.Proofs.YtadooplpfhdhcaaGreat
