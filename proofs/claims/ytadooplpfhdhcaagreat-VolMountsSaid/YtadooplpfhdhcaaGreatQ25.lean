/- A book (chapter 23), in plain words: what its maps tell, and which records may be applied. No program in sight. A book's questions (chapter 23). A book (chapter 23): whether any record may be applied; it is applied. A book (chapter 23): any record is applied. -/
import Derived.Test.YtadooplpfhdhcaaGreatQ12
import Derived.Maps.OwnSet
import Derived.Test.YtadooplpfhdhcaaGreatQ19
import Derived.Deep.DeepAppendWide
import Derived.Test.YtadooplpfhdhcaaGreatQ4
set_option linter.unusedSimpArgs false
set_option linter.unusedVariables false
set_option maxRecDepth 100000
set_option maxHeartbeats 4000000
namespace Go.Proofs.YtadooplpfhdhcaaGreat
open Go Go.RowKit Go.Maps Go.WideMaps
open Go.Lib (hid)
open Go.Proofs.Tryz
structure av where
 till:Int→Int
 holds:List (List UInt8×Int)
 gone:Int→Bool
def av.none:av:=⟨fun _=>0,[],fun _=>false⟩
def av.hold (b:av) (s:List UInt8):Option Int:=(b.holds.find? fun p=>decide (p.1=s)).map Prod.snd
def av.held (b:av) (e:Int):Bool:=b.holds.any fun p=>decide (p.2=e)
def Rec.nm (r:Rec):List UInt8:=r.name.data.toList
def kx (first:Int) (b:av) (r:Rec):Int:=
 if r.kind=1 then 0 else if r.kind=4 then(if(b.hold r.nm).isSome then 0 else 7)else if r.target<first then 7 else if b.gone r.target then 13 else 0
def tY (b:av) (r:Rec):Int:=if(b.hold r.nm).isSome then 19 else if 64≤b.holds.length then 5 else 0
def qc (b:av) (r:Rec):Int:=if r.time<b.till r.target then 9 else if b.held r.target then 10 else if r.till=b.till r.target then 0 else 2
def mY (b:av) (r:Rec):Int:=if r.kind=2 then(if r.till<b.till r.target then 12 else 0)else if r.kind=3 then tY b r else if r.kind=5 then qc b r else 0
def cQ (first epoch now:Int) (b:av) (r:Rec):Int:=
 if aI r=false then 2 else if¬r.epoch=epoch∨r.time<now then 16 else if kx first b r=0 then mY b r else kx first b r
def av.app (b:av) (r:Rec):av:=
 if r.kind=2 then{b with till:=fun e=>if e=r.target then r.till else b.till e}
 else if r.kind=3 then{b with holds:=b.holds++[(r.nm,r.target)]}
 else if r.kind=4 then{b with holds:=b.holds.filter fun p=>decide (p.1≠r.nm)}
 else if r.kind=5 then{b with gone:=fun e=>if e=r.target then true else b.gone e}
 else b
structure br (U L G:DataW Unit) (b:av):Prop where
 um:IsMap U
 lm:Tidy L
 gm:IsMap G
 u:∀e,U.atKey (.int .i64 e) (.lit (.int .i64 0))= .lit (.int .i64 (b.till e))
 has:∀s,Maps.has L (.string s)=(b.hold s).isSome
 val:∀s x,b.hold s=some x→∀zd,L.atKey (.string s) zd= .lit (.int .i64 x)
 len:Maps.size L=b.holds.length
 nod:(b.holds.map Prod.fst).Nodup
 g:∀e,G.atKey (.int .i64 e) (.lit (.bool false))= .lit (.bool (b.gone e))
theorem qd {l:List (List UInt8×Int)} {s:List UInt8}:(l.find? fun p=>decide (p.1=s))=Option.none↔s∉l.map Prod.fst:=by
 rw[List.find?_eq_none]
 constructor
 ·intro h a
  obtain⟨p,hp,rfl⟩:=List.mem_map.1 a
  simpa using h p hp
 ·intro h p hp hd
  exact h (List.mem_map.2 ⟨p,hp,by simpa using hd⟩)
theorem wL {b:av} {s:List UInt8}:(b.hold s).isSome=false↔s∉b.holds.map Prod.fst:=by
 unfold av.hold;rw[←qd]
 cases(b.holds.find? fun p=>decide (p.1=s))<;>simp
theorem FN {b:av} (hn:(b.holds.map Prod.fst).Nodup) {s:List UInt8} {x:Int}:b.hold s=some x↔(s,x)∈b.holds:=by
 unfold av.hold
 induction h:b.holds generalizing b with
 |nil=>simp
 |cons a r ih=>
  rw[h]at hn;simp only[List.map_cons,List.nodup_cons]at hn;rw[List.find?_cons]
  by_cases c:a.1=s
  ·simp only[c,decide_true,Option.map_some,List.mem_cons]
   constructor
   ·intro e;left;injection e with e;rw[←c,←e]
   ·rintro(e|e)
    ·rw[←e]
    ·exact absurd (List.mem_map.2 ⟨_,e,rfl⟩) (by rw[c]at hn;exact hn.1)
  ·simp only[c,decide_false,List.mem_cons]
   have:=ih (b:={b with holds:=r}) (by simpa using hn.2) rfl
   rw[this]
   constructor
   ·exact .inr
   ·rintro(e|e)
    ·exact absurd (by rw[←e]) c
    ·exact e
theorem br.zero:br (.map []) (.map []) (.map []) av.none where
 um:=isMap_empty
 lm:=tidy_empty
 gm:=isMap_empty
 u _:=rfl
 has _:=rfl
 val _ _ h:=by cases h
 len:=rfl
 nod:=by simp[av.none]
 g _:=rfl
theorem br.two {U L G:DataW Unit} {b:av} (h:br U L G b) (e x:Int):br (U.put (.int .i64 e) (.lit (.int .i64 x))) L G {b with till:=fun j=>if j=e then x else b.till j}:=
 ⟨h.um.put _ _,h.lm,h.gm,fun j=>by
   by_cases a:j=e
   ·subst a;rw[atKey_put_same h.um (show WideAt.IsKeyLit (.int .i64 j)from trivial)];simp
   ·rw[atKey_put_other (by intro e;injection e with _ e;exact a e),h.u j];simp[a],h.has,h.val,h.len,h.nod,h.g⟩
theorem br.five {U L G:DataW Unit} {b:av} (h:br U L G b) (e:Int):br U L (G.put (.int .i64 e) (.lit (.bool true))) {b with gone:=fun j=>if j=e then true else b.gone j}:=
 ⟨h.um,h.lm,h.gm.put _ _,h.u,h.has,h.val,h.len,h.nod,fun j=>by
   by_cases a:j=e
   ·subst a;rw[atKey_put_same h.gm (show WideAt.IsKeyLit (.int .i64 j)from trivial)];simp
   ·rw[atKey_put_other (by intro e;injection e with _ e;exact a e),h.g j];simp[a]⟩
theorem zq {b:av} {s t:List UInt8} {x:Int} (c:(b.hold s).isSome=false):({b with holds:=b.holds++[(s,x)]}:av).hold t=if t=s then some x else b.hold t:=by
 have hn:=wL.1 c;unfold av.hold;rw[List.find?_append]
 by_cases a:t=s
 ·subst a
  rw[qd.2 hn,if_pos rfl];simp
 ·rw[if_neg a]
  have:([(s,x)].find? fun p=>decide (p.1=t))=Option.none:=by
   rw[List.find?_cons]
   have:decide (s=t)=false:=by simpa using fun e=>a e.symm
   simp only[this]
   rfl
  rw[this];simp
theorem br.three {U L G:DataW Unit} {b:av} (h:br U L G b) (s:List UInt8) (x:Int) (f:(b.hold s).isSome=false) (j:Tidy (L.put (.string s) (.lit (.int .i64 x)))):br U (L.put (.string s) (.lit (.int .i64 x))) G {b with holds:=b.holds++[(s,x)]} where
 um:=h.um
 lm:=j
 gm:=h.gm
 u:=h.u
 has t:=by
  rw[zq f]
  by_cases d:t=s
  ·subst d;rw[has_put_same h.lm.isMap (show WideAt.IsKeyLit (.string t)from trivial),if_pos rfl];rfl
  ·rw[has_put_other (by intro e;injection e with e;exact d e),h.has,if_neg d]
 val t y hy zd:=by
  rw[zq f]at hy
  by_cases d:t=s
  ·subst d
   rw[if_pos rfl]at hy;obtain rfl:=Option.some.inj hy;rw[atKey_put_same h.lm.isMap (show WideAt.IsKeyLit (.string t)from trivial)]
  ·rw[if_neg d]at hy
   rw[atKey_put_other (by intro e;injection e with e;exact d e)];exact h.val t y hy zd
 len:=by
  rw[size_put h.lm,h.has,f,h.len];simp
 nod:=by
  show((b.holds++[(s,x)]).map Prod.fst).Nodup
  rw[List.map_append,List.nodup_append];refine⟨h.nod,by simp, ?_⟩;intro a i c hc;simp at hc;subst hc;intro e;subst e;exact wL.1 f i
 g:=h.g
theorem zr {b:av} {s t:List UInt8}:({b with holds:=b.holds.filter fun p=>decide (p.1≠s)}:av).hold t=if t=s then Option.none else b.hold t:=by
 unfold av.hold;simp only;rw[List.find?_filter]
 by_cases a:t=s
 ·subst a
  rw[if_pos rfl];rw[List.find?_eq_none.2 (by intro p _;simp)]
  rfl
 ·rw[if_neg a]
  congr 1
  congr 1
  funext p
  by_cases hp:p.1=t
  ·have:p.1≠s:=fun e=>a (hp ▸ e)
   simp[hp,a]
  ·simp[hp]
theorem DJ {l:List (List UInt8×Int)} (hn:(l.map Prod.fst).Nodup) (s:List UInt8):(l.filter fun p=>decide (p.1≠s)).length+(if(l.find? fun p=>decide (p.1=s)).isSome then 1 else 0)=l.length:=by
 induction l with
 |nil=>simp
 |cons a r ih=>
  simp only[List.map_cons,List.nodup_cons]at hn
  have:=ih hn.2
  by_cases b:a.1=s
  ·have c:(r.find? fun p=>decide (p.1=s))=Option.none:=qd.2 (by rw[←b];exact hn.1)
   rw[c]at this;rw[List.filter_cons_of_neg (by simpa using b),List.find?_cons_of_pos (by simpa using b)];simp at this ⊢;exact this
  ·rw[List.filter_cons_of_pos (by simpa using b),List.find?_cons_of_neg (by simpa using b),List.length_cons,List.length_cons]
   omega
theorem br.four {U L G:DataW Unit} {b:av} (h:br U L G b) (s:List UInt8) (f:Tidy (L.del (.string s))):br U (L.del (.string s)) G {b with holds:=b.holds.filter fun p=>decide (p.1≠s)} where
 um:=h.um
 lm:=f
 gm:=h.gm
 u:=h.u
 has t:=by
  rw[zr]
  by_cases a:t=s
  ·subst a;rw[has_del_same,if_pos rfl];rfl
  ·rw[has_del_other (by intro e;injection e with e;exact a e),h.has,if_neg a]
 val t y hy zd:=by
  rw[zr]at hy
  by_cases a:t=s
  ·rw[if_pos a]at hy;cases hy
  ·rw[if_neg a]at hy
   rw[atKey_del_other (by intro e;injection e with e;exact a e)];exact h.val t y hy zd
 len:=by
  have c:=size_del h.lm (k:= .string s);rw[h.has,h.len]at c;have i:=DJ h.nod s;have d:(b.hold s).isSome=(b.holds.find? fun p=>decide (p.1=s)).isSome:=by unfold av.hold;simp
  rw[d]at c
  show _=(b.holds.filter fun p=>decide (p.1≠s)).length
  omega
 nod:=by
  show((b.holds.filter fun p=>decide (p.1≠s)).map Prod.fst).Nodup
  exact h.nod.sublist ((List.filter_sublist).map _)
 g:=h.g
theorem sD {w:World} {m n:Nat} {U L G:DataW Unit} {b:av} {e:Int} (h:w.ownsMap prog 3 (plainElem prog 3) m n U) (d:br U L G b) (i:0≤e) (j:e≤4294967295):
  (Instr.lookup 189 (.map (some m)) (.int .i64 e) false).run prog w= .ok (.int .i64 (b.till e)) w:=by
 have cr:keyOf prog 3 (.int .i64 e)=some (.int .i64 e):=keyOf_int_mk underlying3 (WalkArith.wf_i64 (by omega));obtain⟨v,k,f,c⟩:=h.lookup jI underlying189 (z:= .int .i64 0) (by kernel_rfl) (plainElem_int underlying3 (by decide)) cr;rw[d.u]at c;obtain⟨x,rfl,g⟩:=plainElem_int_inv underlying3 c;have a:=congrArg Prod.fst g.1
 injection a with a
 injection a with _ a
 rw[f,a]
theorem bf.drew {w:World} {a b c n:Nat} {U L G:DataW Unit} (h:bf w a b c n U L G):bf w.drew a b c n U L G:=⟨h.u,h.l,h.g,h.n1,h.n2,h.n3⟩
theorem fy {a q:Int} (h:a=q):Ending.returned (.int .i64 a)=Ending.returned (.int .i64 q):=by rw[h]
theorem BA (R W N O P n:Nat) (first f:Int) (U L G:DataW Unit) (b:av) (r:Rec) (w:World) (h:ac w R (aT W first f N O P) 193) (S:bf w N O P n U L G) (I:br U L G b) (hn:r.name.size≤16) (M:0≤r.target∧r.target≤4294967295):
  Calls prog 244 #[.pointer (some ⟨R,0,none⟩),r.v] w fun x w'=>x= .returned (.int .i64 (kx first b r))∧Below w.heap.size w w':=by
 obtain⟨g,H⟩:∃g,b.gone r.target=g:=⟨_,rfl⟩;have y:=fun(wx:World) (Z:bf wx N O P n U L G)=>mr Z.g M.1 M.2 (show G.atKey (.int .i64 r.target) (.lit (.bool false))= .lit (.bool g)from by rw[I.g,H])
 have D:=hid y;have k:=hid H;obtain⟨q,J⟩:∃q,kx first b r=q:=⟨_,rfl⟩;rw[J];have m:=hid J;clear y H J M;obtain⟨is,j⟩:∃is,Maps.has L (.string r.nm)=is:=⟨_,rfl⟩;have E:=hid j;have d:=hid (show(b.hold r.nm).isSome=is from by rw[←I.has];exact j);have Q:=hid h;have T:=hid S;have F:=hid hn;clear h S I j hn;go_enter func244,ntmps244
 go_wp2_with (first
  |((with_reducible refine ae 59 (.tmp 1) r.cells (some 3) ?hgd ?ho ?hd ?hx ?_);(case hgd|ho|hd|hx=>rfl);(intro b3 w3 C e B z3))
  |fail)
 have c:=hid (Q.below (B.mono C) Q.lt);have o:=hid (T.below (B.mono C));have a:=hid (B.mono C);have q0:=e.drew.cell (i:=0) rfl;have q2:=e.drew.cell (i:=2) rfl;have q4:=e.drew.cell (i:=4) rfl;have q5:=e.drew.cell (i:=5) rfl;have q7:=e.drew.cell (i:=7) rfl;have c1:=c.drew.cell (i:=1) rfl;have c3:=c.drew.cell (i:=3) rfl;have c4:=c.drew.cell (i:=4) rfl;have c5:=c.drew.cell (i:=5) rfl;have p:=hid e;obtain⟨v,ps,A,Y⟩:=(World.ownsMap.drew o.l).look_ok fK underlying190 (z:= .int .i64 0) (by kernel_rfl) (plainElem_int underlying3 (by decide)) (keyOf_string_mk underlying9 (s:=r.name) (by have:=F.out;unfold maxLen;omega));rw[show Maps.has L (.string r.name.data.toList)=is from E.out]at A;clear Y e B z3 C;refine aB (by kernel_rfl) (by kernel_rfl) ?_
 repeat still_step
 refine wpStill_nil ?_;go_wp2_with fail
 ·(go_ret;refine⟨fy ?_,(by first|exact a.out|exact a.drew|exact a.drew.drew|exact a.drew.drew.drew)⟩;have t:=d.out;have u:=k.out;rw[←m.out];unfold kx;simp_all)
 ·(go_ret;refine⟨fy ?_,(by first|exact a.out|exact a.drew|exact a.drew.drew|exact a.drew.drew.drew)⟩;have t:=d.out;have u:=k.out;rw[←m.out];unfold kx;simp_all)
 ·(go_ret;refine⟨fy ?_,(by first|exact a.out|exact a.drew|exact a.drew.drew|exact a.drew.drew.drew)⟩;have t:=d.out;have u:=k.out;rw[←m.out];unfold kx;simp_all)
 all_goals(
  have ad:=p.drew.drew.cell (i:=4) rfl;have V:=c.drew.drew.cell (i:=1) rfl;refine aB (by kernel_rfl) (by kernel_rfl) ?_
  repeat still_step
  refine wpStill_nil ?_;go_wp2_with fail)
 ·(go_ret;refine⟨fy ?_,(by first|exact a.out|exact a.drew|exact a.drew.drew|exact a.drew.drew.drew)⟩;have t:=d.out;have u:=k.out;rw[←m.out];unfold kx;simp_all)
 ·have an:=p.drew.drew.drew.cell (i:=4) rfl
  have X:=c.drew.drew.drew.cell (i:=5) rfl;have K:=D.out _ (o.drew.drew.drew);refine aB (by kernel_rfl) (by kernel_rfl) ?_
  repeat still_step
  refine wpStill_nil ?_;go_wp2_with fail
  ·(go_ret;refine⟨fy ?_,(by first|exact a.out|exact a.drew|exact a.drew.drew|exact a.drew.drew.drew)⟩;have t:=d.out;have u:=k.out;rw[←m.out];unfold kx;simp_all)
  ·(go_ret;refine⟨fy ?_,(by first|exact a.out|exact a.drew|exact a.drew.drew|exact a.drew.drew.drew)⟩;have t:=d.out;have u:=k.out;rw[←m.out];unfold kx;simp_all)
theorem DK (I Q K F M n:Nat) (first e:Int) (U L G:DataW Unit) (b:av) (r:Rec) (w:World) (h:ac w I (aT Q first e K F M) 193) (J:bf w K F M n U L G) (D:br U L G b) (hn:r.name.size≤16):
  Calls prog 245 #[.pointer (some ⟨I,0,none⟩),r.v] w fun x w'=>x= .returned (.int .i64 (tY b r))∧Below w.heap.size w w':=by
 obtain⟨q,E⟩:∃q,tY b r=q:=⟨_,rfl⟩;rw[E];have O:=hid E;have B:=hid D.len;clear E;obtain⟨is,f⟩:∃is,Maps.has L (.string r.nm)=is:=⟨_,rfl⟩;have y:=hid f;have u:=hid (show(b.hold r.nm).isSome=is from by rw[←D.has];exact f);have H:=hid h;have N:=hid J;have A:=hid hn;clear h J D f hn;go_enter func245,ntmps245
 go_wp2_with (first
  |((with_reducible refine ae 59 (.tmp 1) r.cells (some 3) ?hgd ?ho ?hd ?hx ?_);(case hgd|ho|hd|hx=>rfl);(intro T w3 t d p S))
  |fail)
 have a:=hid (H.below (p.mono t) H.lt);have j:=hid (N.below (p.mono t));have c:=hid (p.mono t);have q0:=d.drew.cell (i:=0) rfl;have q2:=d.drew.cell (i:=2) rfl;have q4:=d.drew.cell (i:=4) rfl;have q5:=d.drew.cell (i:=5) rfl;have q7:=d.drew.cell (i:=7) rfl;have V:=a.drew.cell (i:=1) rfl;have W:=a.drew.cell (i:=3) rfl;have X:=a.drew.cell (i:=4) rfl;have Y:=a.drew.cell (i:=5) rfl;have P:=hid d;obtain⟨v,ps,o,R⟩:=(World.ownsMap.drew j.l).look_ok fK underlying190 (z:= .int .i64 0) (by kernel_rfl) (plainElem_int underlying3 (by decide)) (keyOf_string_mk underlying9 (s:=r.name) (by have:=A.out;unfold maxLen;omega));rw[show Maps.has L (.string r.name.data.toList)=is from y.out]at o;clear R;refine aB (by kernel_rfl) (by kernel_rfl) ?_
 repeat still_step
 refine wpStill_nil ?_;have C:=hid (World.ownsMap.drew j.l);obtain⟨sz,g⟩:∃sz:Nat,b.holds.length=sz:=⟨_,rfl⟩;have k:=hid (B.trans g);have m:=hid g;clear d p S t g
 go_wp2_with (first
  |(at_len;refine wpList_len_own _ rfl _ 190 rfl 9 3 underlying190 _ F n L rfl C.out ?_;rw[k.out])
  |fail)
 all_goals(go_ret;refine⟨fy ?_,(by first|exact c.out|exact c.drew|exact c.drew.drew|exact c.drew.drew.drew)⟩;have Z:=u.out;have e2:=m.out;rw[←O.out];unfold tY;simp_all<;>omega)
theorem FO (d l g j k n:Nat) (first a:Int) (U L G:DataW Unit) (b:av) (e:Int) (w:World) (h:ac w d (aT l first a g j k) 193) (o:bf w g j k n U L G) (m:br U L G b) (q:0≤e) (r:e≤4294967295):
  Calls prog 109 #[.pointer (some ⟨d,0,none⟩), .int .i64 e] w fun x w'=>x= .returned (.int .i64 (b.till e))∧w=w':=by
 obtain⟨t,f⟩:∃t,b.till e=t:=⟨_,rfl⟩;have c:=sD o.u m q r;rw[f]at c;rw[f];have s:=h.cell (i:=3) rfl;have p:=hid h;clear h o m f;go_enter func109,ntmps109;go_wp2_with fail
 refine(dJ d l first a g j k _ p.out).mono ?_
 rintro e v ⟨rfl,rfl⟩;go_wp2_with fail;go_ret;exact⟨rfl,rfl⟩
theorem DL (j o k d m n:Nat) (first a:Int) (U L G:DataW Unit) (b:av) (w:World) (h:ac w j (aT o first a k d m) 193) (q:bf w k d m n U L G) (p:br U L G b):
  Calls prog 106 #[.pointer (some ⟨j,0,none⟩)] w fun x w'=>x= .returned (.int .i64 (b.holds.length:Int))∧w=w':=by
 obtain⟨sz,c⟩:∃sz:Nat,b.holds.length=sz:=⟨_,rfl⟩;have f:=hid (p.len.trans c);rw[c];have s:=h.cell (i:=4) rfl;have r:=hid h;have g:=hid q.l;clear h q p c;go_enter func106,ntmps106;go_wp2_with fail
 refine(dJ j o first a k d m _ r.out).mono ?_
 rintro e t ⟨rfl,rfl⟩
 go_wp2_with (first
  |(at_len;refine wpList_len_own _ rfl _ 190 rfl 9 3 underlying190 _ d n L rfl g.out ?_;rw[f.out])
  |fail)
 go_ret;exact⟨rfl,rfl⟩
structure JS (b:av) (L:DataW Unit) (e:Int) (left:Lit→Bool) (m:Nat):Prop where
 sub:∀s,left (.string s)=true→Maps.has L (.string s)=true
 no:m=0→∀s x,b.hold s=some x→x=e→left (.string s)=true
 yes:0<m→b.held e=true
theorem JU {b:av} {s:List UInt8} {x:Int} (h:b.hold s=some x):b.held x=true:=by
 unfold av.hold at h;unfold av.held;rw[List.any_eq_true]
 cases hf:b.holds.find? (fun p=>decide (p.1=s))with
 |none=>rw[hf]at h;cases h
 |some p=>rw[hf]at h;exact⟨p,List.mem_of_find?_eq_some hf,by simpa using h⟩
theorem Iz {b:av} (hn:(b.holds.map Prod.fst).Nodup) {e:Int} (h:∀s x,b.hold s=some x→¬x=e):b.held e=false:=by
 unfold av.held;rw[List.any_eq_false];intro p hp hd;exact h p.1 p.2 ((FN hn).2 hp) (by simpa using hd)
theorem tZ {key:Value} {a:Lit} (h:keyOf prog 9 key=some a):∃s:ByteArray,key= .string s∧a= .string s.data.toList:=by
 cases key<;>simp[keyOf,underlying9,mapKey]at h
 exact⟨_,rfl,h.2.symm⟩
theorem zt:(prog.info? 9).map (fun i=>(i.zero,i.size,i.bytes))=some (some (.string ByteArray.empty),1,16):=by kernel_rfl
theorem DN (bb c2 m1 O m3 n:Nat) (first o:Int) (U L G:DataW Unit) (b:av) (e:Int) (w:World) (h:ac w bb (aT c2 first o m1 O m3) 193) (hm:bf w m1 O m3 n U L G) (hi:br U L G b) (hz:n≤65536) (r:∀(v:Value) (m:Nat) (xs:List ByteArray) (wx:World),wx.ownsRow w.heap.size 9 1 v m (xs.map .string)→w.heap.size≤wx.heap.size→m≤65536→Calls prog 302 #[v] wx fun x w'=>x= .returned (.tuple #[])∧Below w.heap.size wx w'):
  Calls prog 284 #[.pointer (some ⟨bb,0,none⟩), .int .i64 e] w fun x w'=>(∃p m c,x= .returned (.slice p m c)∧(0<m↔b.held e=true)∧m≤65536)∧Below w.heap.size w w':=by
 obtain⟨i0,b2,b5,b6,b7⟩:=info_parts zt;have c4:=h.cell (i:=4) rfl;have HB:=hid h;have HM:=hid hm;have HI:=hid hi;have a1:=hid hm.l;have bv:=hid r;have cx:=hi.len;have cy:Maps.size L≤n:=hm.l.size_le;clear h hm hi r;go_enter func284,ntmps284;go_wp2_with fail
 refine(dJ bb c2 first o m1 O m3 _ HB.out).mono ?_
 rintro x' w1 ⟨rfl,rfl⟩
 go_wp2_with (first
  |(at_range;refine wpList_range_own _ rfl _ 190 rfl 9 3 fK underlying190 _ O n _ rfl a1.out ?_;intro w0 J a5 a9)
  |fail)
 have aA:=hid J;have j:=hid a5;have ci:=hid a9;have bo:=hid a1.lt;clear J a5 a9;go_frame
 go_loopw [5] (fun v wr=>∃(left:Lit→Bool) (u m:Nat) (xs:List ByteArray),Hid (wr.ranges prog 9 (plainElem prog 3) O w.heap.size n L left u)∧Hid (wr.ownsRow (w.heap.size+1) 9 1 v m (xs.map .string))∧m+u≤65536∧Hid (JS b L e left m)∧Hid (Below w.heap.size w wr))
  (fun _ wr=>wr.rangeLeft O w.heap.size)
 case atStart=>exact⟨_,_,0,[],aA,hid (World.ownsRow_nil _ _ _ _),by omega,hid ⟨fun s h=>h,fun _ s x X _=>by rw[HI.has,X];rfl,fun h=>absurd h (Nat.lt_irrefl 0)⟩,hid ⟨j.os,j.tape,j.output,j.size,fun k hk=>j.block k hk (by simp)⟩⟩
 case round=>
  obtain⟨left,u,m,xs,aq,HO,cw,W,t⟩:=hrel;obtain⟨pv,cv,rfl⟩:=az HO.out
  go_wp2_with (first
   |(at_next;refine wpList_next_ranges _ rfl _ rfl 9 fK (plainElem prog 3) Value.string (Value.int .i64) (fun key kl cr=>by obtain⟨s,h,_⟩:=tZ cr;exact⟨s,h⟩) (fun v y V=>by obtain⟨c,rfl,_⟩:=plainElem_int_inv underlying3 V;exact⟨c,rfl⟩) O w.heap.size n _ _ _ rfl aq.out ?_ ?_)
   |fail)
  ·intro co a6
   have Q:=hid (show 0<m↔b.held e=true from⟨W.yes,fun h=>by
    rcases Nat.eq_zero_or_pos m with h0|h0
    ·rw[Iz HI.nod (fun s x X hx=>by have:=W.no h0 s x X hx;rw[a6]at this;cases this)]at h
     cases h
    ·exact h0⟩)
   clear a6
   go_wp2_with (first
    |(go_at_call 302;refine(bv.out _ m xs _ (own_base HO.out (Nat.le_succ _)) t.size (by omega)).mono ?_;rintro x' w9 ⟨rfl,b0⟩)
    |fail)
   go_ret;exact⟨⟨pv,m,cv,rfl,Q.out,by omega⟩,t.trans b0⟩
  ·intro x c kl y ys w2 E cr a7 V a3 K a8 T b3 cs
   obtain⟨s',S,B⟩:=tZ cr
   injection S with S
   subst S;obtain⟨c',ec,hy,_⟩:=plainElem_int_inv underlying3 V
   injection ec with _ ec
   subst ec
   injection hy with hy _
   have I:∀zd,L.atKey (.string x.data.toList) zd= .lit (.int .i64 c):=fun zd=>by have F:=a3 zd;rw[B,hy]at F;exact F
   have q:b.hold x.data.toList=some c:=by
    have F:=W.sub x.data.toList (by rw[←B];exact a7);rw[HI.has]at F
    cases hq:b.hold x.data.toList with
    |none=>rw[hq]at F;cases F
    |some c0=>
     have H:=HI.val _ _ hq (.lit (.int .i64 0));rw[I]at H
     injection H with H
     injection H with _ H
     rw[H]
   have Z:=hid q;have f:=hid K;have an:=hid (pU HO.out T (Nat.lt_succ_self _));have g:=hid (tG t.out T (Nat.le_refl _) t.size);have ad:=hid (show wr.rangeLeft O w.heap.size=u from aq.left_eq);have N:∀s,(left (.string s)&& !(Lit.string s).sameKey kl)=true→Maps.has L (.string s)=true:=fun s h=>W.sub s (by simp at h;exact h.1)
   have D:=hid N;have M:∀s,¬s=x.data.toList→left (.string s)=true→(left (.string s)&& !(Lit.string s).sameKey kl)=true:=fun s F H=>by rw[B,H];simp[Lit.sameKey,F]
   have a0:=hid M;clear a3 I V cr a7 q K T b3 hy B N M
   by_cases A:c=e
   ·have a4:(c==e)=true:=beq_iff_eq.2 A
    go_wp2_with (first
     |((with_reducible refine bi 45 9 1 ?parts [.string x] (.string ByteArray.empty) 1 16 (some 26) underlying45 zt (by omega) (by omega) ?hgd ?ho ?hd ?hf ?_);(case hgd|ho|hd=>rfl);(case hf=>kernel_rfl);(intro g7 w7 l7 B7 e7 z7;(have R:=g.out.trans (e7.mono (Nat.le_trans g.out.size l7)));(have a:=own_below (e7.mono l7) an.out);(have be:=f.out.kept (below_grown (e7.mono l7)) (by simp) (by simp));(have cb:w.heap.size+1≤w7.heap.size:=Nat.le_trans (Nat.succ_le_of_lt f.out.lt) (e7.mono l7).size)))
     |(at_builtin;refine wpList_append_own_wide _ rfl _ _ 45 rfl (w.heap.size+1) 9 i0 (.string ByteArray.empty) 1 16 underlying45 b2 b5 b6 b7 rfl (by decide) _ m _ rfl a ⟨g7,0,none⟩ 1 1 [.string x] rfl rfl (bI B7) (by intro v V;simp at V;rcases V with rfl;rfl) (by unfold maxLen;omega) (by omega) cb ?_;intro v' w8 P d bd)
     |fail)
    have C:=hid (be.kept d (own_ne a (by have:=bo.out;omega)) (own_ne a (Nat.lt_succ_self _)));have Y:=hid (dH R a d (Nat.le_succ _) R.size);have bt:=hid (show w8.ownsRow (w.heap.size+1) 9 1 v' (m+1) ((xs++[x]).map .string)from by rw[List.map_append];exact P);clear be R a d bd P B7 e7 z7;go_roundw
    case rel=>exact⟨_,E,m+1,xs++[x],C,bt,by omega,hid ⟨D.out,fun h=>absurd h (Nat.succ_ne_zero m),fun _=>A ▸ JU Z.out⟩,Y⟩
    case measure=>rw[C.left_eq,ad.out];exact a8
   ·have a4:(c==e)=false:=beq_eq_false_iff_ne.2 A
    go_wp2_with fail;go_roundw
    case rel=>exact⟨_,E,m,xs,f,an,by omega,hid ⟨D.out,fun h s z X hz=>a0.out s (fun e1=>A (by subst e1;have:=Z.out;rw[X]at this;injection this with this;rw[←this];exact hz)) (W.no h s z X hz),W.yes⟩,g⟩
    case measure=>rw[f.left_eq,ad.out];exact a8
def dU:Prop:=∀(W:World) (v:Value) (m:Nat) (xs:List ByteArray) (wx:World),wx.ownsRow W.heap.size 9 1 v m (xs.map .string)→W.heap.size≤wx.heap.size→m≤65536→Calls prog 302 #[v] wx fun x w'=>x= .returned (.tuple #[])∧Below W.heap.size wx w'
theorem DO (H Q y z A n:Nat) (first a:Int) (U L G:DataW Unit) (b:av) (r:Rec) (w:World) (h:ac w H (aT Q first a y z A) 193) (K:bf w y z A n U L G) (J:br U L G b) (hn:r.name.size≤16) (S:0≤r.target∧r.target≤4294967295) (hz:n≤65536) (F:dU):
  Calls prog 246 #[.pointer (some ⟨H,0,none⟩),r.v] w fun x w'=>x= .returned (.int .i64 (qc b r))∧Below w.heap.size w w':=by
 obtain⟨t,s⟩:∃t,b.till r.target=t:=⟨_,rfl⟩;have k:=fun(B:World) (hw:bf B y z A n U L G)=>sD hw.u J S.1 S.2
 rw[s]at k;have N:=hid k;have O:=hid (fun(B:World) (h:ac B H (aT Q first a y z A) 193) (K:bf B y z A n U L G)=>DN H Q y z A n first a U L G b r.target B h K J hz (F B));obtain⟨q,R⟩:∃q,qc b r=q:=⟨_,rfl⟩;rw[R];have V:=hid R;have W:=hid s;clear k R S s F;obtain⟨is,l⟩:∃is,Maps.has L (.string r.nm)=is:=⟨_,rfl⟩;have Y:=hid l;have X:=hid (show(b.hold r.nm).isSome=is from by rw[←J.has];exact l);have T:=hid h;have Z:=hid K;have ad:=hid hn;clear h K J l hn;go_enter func246,ntmps246
 go_wp2_with (first
  |((with_reducible refine ae 59 (.tmp 1) r.cells (some 3) ?hgd ?ho ?hd ?hx ?_);(case hgd|ho|hd|hx=>rfl);(intro b3 w3 M f I z3))
  |fail)
 have d:=hid (T.below (I.mono M) T.lt);have D:=hid (Z.below (I.mono M));have g:=hid (I.mono M);have q0:=f.drew.cell (i:=0) rfl;have q2:=f.drew.cell (i:=2) rfl;have q4:=f.drew.cell (i:=4) rfl;have q5:=f.drew.cell (i:=5) rfl;have q7:=f.drew.cell (i:=7) rfl;have c1:=d.drew.cell (i:=1) rfl;have c3:=d.drew.cell (i:=3) rfl;have c4:=d.drew.cell (i:=4) rfl;have c5:=d.drew.cell (i:=5) rfl;have e:=hid f;have o:=N.out _ D.drew;clear I z3 M;refine aB (by kernel_rfl) (by kernel_rfl) ?_
 repeat still_step
 refine wpStill_nil ?_;have a8:=e.drew.cell (i:=2) rfl;have bd:=e.drew.cell (i:=4) rfl;clear q0 q2 q4 q5 q7 c1 c3 c4 c5 f o
 by_cases a2:r.time<t
 ·go_wp2_with fail
  (go_ret;refine⟨fy ?_,g.drew⟩;have e2:=W.out;rw[←V.out];unfold qc;simp_all)
 ·go_wp2_with fail
  refine(O.out _ d.drew D.drew).mono ?_
  rintro x w5 ⟨⟨p,m,c,rfl,E,a3⟩,j⟩;have bk:=(e.drew.below j e.lt).cell (i:=5) rfl;have P:=hid E;have C:=hid (g.drew.trans (j.mono g.size));clear E j;go_wp2_with fail
  all_goals(go_ret;refine⟨fy ?_,C.out⟩;have e1:=P.out;have e2:=W.out;rw[←V.out];unfold qc;simp_all)
theorem wM (I R m1 m2 m3 n:Nat) (first a now:Int) (U L G:DataW Unit) (b:av) (r:Rec) (w:World) (h:ac w I (aT R first a m1 m2 m3) 193) (hm:bf w m1 m2 m3 n U L G) (hi:br U L G b) (hc:ac w R [.bool true, .int .i64 now] 188) (hn:r.name.size≤1073741824) (hf:Fits r.epoch) (hz:n≤65536) (a7:dU):
  Calls prog 178 #[.pointer (some ⟨I,0,none⟩),r.v] w fun x w'=>x= .returned (.int .i64 (cQ first a now b r))∧Below w.heap.size w w':=by
 obtain⟨q,hq⟩:∃q,cQ first a now b r=q:=⟨_,rfl⟩;rw[hq];have HQ:=hid hq;have HB:=hid h;have HC:=hid hc;have HM:=hid hm;have HI:=hid hi;have bm:=hid hn;have bk:=hid hf;have bn:=hid a7;clear h hc hm hi hn hf hq a7;go_enter func178,ntmps178
 go_wp2_with (first
  |((with_reducible refine ae 59 (.tmp 1) r.cells (some 3) ?hgd ?ho ?hd ?hx ?_);(case hgd|ho|hd|hx=>rfl);(intro M w3 l3 B3 e3 z3))
  |fail)
 have Q:=hid B3;have J:=hid (e3.mono l3);have N:=hid (HB.below (e3.mono l3) HB.lt);have a1:=hid (HC.below (e3.mono l3) HC.lt);have bl:=hid (HM.below (e3.mono l3));clear B3 e3 z3 l3
 refine(dJ I R first a m1 m2 m3 _ N.out).mono ?_
 rintro e w' ⟨rfl,rfl⟩
 go_wp2_with (first
  |((with_reducible refine aj 59 (.tmp 3) M r.cells 59 _ Q.out underlying59 rfl aV ?hgd ?ho ?hx ?_);(case hgd|ho|hx=>rfl))
  |fail)
 refine(iW r _ bm.out bk.out).mono ?_
 rintro e w4 ⟨rfl,o⟩;have f:=hid (Q.below o Q.lt);have j:=hid (N.below o N.lt);have be:=hid (a1.below o a1.lt);have a2:=hid (bl.below o);have g:=hid (J.trans (o.mono J.size));clear o
 by_cases s:aI r=true
 case neg=>
  have E:aI r=false:=by simpa using s
  rw[qM E];have m:=hid E;clear s E;go_wp2_with fail
  (go_ret;refine⟨fy ?_,g.out⟩;rw[←HQ.out];unfold cQ;rw[if_pos m.out])
 rw[me s];have m:=hid s;have V:=dh s;have z:=hid V;clear s;go_upto_region 5 with fail
 by_cases p:r.epoch=a
 case neg=>
  have l:=hid p;have a6:(r.epoch==a)=false:=beq_eq_false_iff_ne.2 p;clear p V;refine wp_region_held_drew (S:=fun wx=>wx.cell? ⟨M,1,none⟩=some (.int .i64 r.epoch)∧wx.cell? ⟨I,2,none⟩=some (.int .i64 a)∧wx.cell? ⟨M,2,none⟩=some (.int .i64 r.time)) (by kernel_rfl) ⟨f.drew.cell (i:=1) rfl,j.drew.cell (i:=2) rfl,f.drew.cell (i:=2) rfl⟩ (fun d=> ?_);refine hp 0 ?_;refine hp 1 ?_;refine hp 2 ?_;refine hp 3 ?_;refine hp 4 ?_;refine hp 5 ?_;refine hp (v:= .bool true) 6 ?_ (hy:=by intro w T;(try dsimp only at T);go_simp;exact l.out);refine hp 7 ?_;refine hn 8 ?_;refine hn 9 ?_;refine hn 10 ?_;refine hn 11 ?_;refine hn 12 ?_;refine hp 13 ?_;refine hp 14 ?_;refine wpAnyH_done (by kernel_rfl) ?_ _;clear d;go_wp2_with fail
  (go_ret;refine⟨fy ?_,g.drew⟩;rw[←HQ.out];unfold cQ;rw[if_neg (by rw[m.out];simp),if_pos (.inl l.out)])
 have a6:(r.epoch==a)=true:=beq_iff_eq.2 p;have l:=hid p;clear p;refine wp_region_held_drew (S:=fun wx=>wx.cell? ⟨M,1,none⟩=some (.int .i64 r.epoch)∧wx.cell? ⟨I,2,none⟩=some (.int .i64 a)∧wx.cell? ⟨M,2,none⟩=some (.int .i64 r.time)) (by kernel_rfl) ⟨f.drew.cell (i:=1) rfl,j.drew.cell (i:=2) rfl,f.drew.cell (i:=2) rfl⟩ (fun d=> ?_);refine hp 0 ?_;refine hp 1 ?_;refine hp 2 ?_;refine hp 3 ?_;refine hp 4 ?_;refine hp 5 ?_;refine hp (v:= .bool false) 6 ?_ (hy:=by intro w T;(try dsimp only at T);go_simp;exact l.out);refine hp 7 ?_;refine hp 8 ?_;refine hp 9 ?_;refine hp 10 ?_;refine wpAnyH_ready (rs:=[11]) (by kernel_rfl) (by simp) ?_;refine AllReadyH.cons rfl (fun K hK=> ?_) AllReadyH.nil;go_simp
 refine(ko I R first a m1 m2 m3 _ j.drew now be.drew).mono ?_
 rintro e w' ⟨rfl,rfl⟩
 (try go_wp2_with fail)
 refine hK.out _ _ ⟨f.drew.cell (i:=1) rfl,j.drew.cell (i:=2) rfl,f.drew.cell (i:=2) rfl⟩ (fun k=> ?_);clear hK K d;have d:=k;clear k
 (try go_frame)
 refine hp 12 ?_;refine hp 13 ?_;refine hp 14 ?_;refine wpAnyH_done (by kernel_rfl) ?_ _;clear d
 by_cases W:r.time<now
 ·have H:=hid W
  go_wp2_with fail
  (go_ret;refine⟨fy ?_,g.drew⟩;rw[←HQ.out];unfold cQ;rw[if_neg (by rw[m.out];simp),if_pos (.inr H.out)])
 have H:=hid W
 go_wp2_with (first
  |((with_reducible refine aj 59 (.tmp 3) M r.cells 59 _ f.out.drew underlying59 rfl aV ?hgd ?ho ?hx ?_);(case hgd|ho|hx=>rfl))
  |fail)
 obtain⟨tg,Y⟩:∃tg,kx first b r=tg:=⟨_,rfl⟩;have a4:=hid Y
 refine(BA I R m1 m2 m3 n first a U L G b r _ j.drew a2.drew HI.out (by omega) (by omega)).mono ?_
 rintro e w6 ⟨rfl,C⟩;rw[Y];clear Y;have B:=hid (f.drew.below C f.lt);have O:=hid (j.drew.below C j.lt);have P:=hid (a2.drew.below C);have c:=hid (g.drew.trans (C.mono g.size));clear C
 by_cases a8:tg=0
 case neg=>
  go_wp2_with fail
  (go_ret;refine⟨fy ?_,c.out⟩;rw[←HQ.out];unfold cQ;rw[if_neg (by rw[m.out];simp),if_neg (by rw[l.out];exact fun h=>h.elim (fun h=>h rfl) (fun h=>absurd h (Int.not_lt.2 H.out))),a4.out,if_neg a8])
 subst a8;have A:=hid (show mY b r=q from by rw[←HQ.out];unfold cQ;rw[if_neg (by rw[m.out];simp),if_neg (by rw[l.out];exact fun h=>h.elim (fun h=>h rfl) (fun h=>absurd h (Int.not_lt.2 H.out))),a4.out,if_pos rfl]);have bo:r.kind=1∨r.kind=2∨r.kind=3∨r.kind=4∨r.kind=5:=by omega
 have q0:=B.cell (i:=0) rfl;clear W V
 rcases bo with hk|hk|hk|hk|hk
 ·rw[hk]at q0
  have F:=hid hk;clear hk;go_wp2_with fail
  (go_ret;refine⟨fy ?_,c.out⟩;rw[←A.out];unfold mY;simp[F.out])
 ·rw[hk]at q0
  have F:=hid hk;clear hk;go_wp2_with fail;obtain⟨t,Z⟩:∃t,b.till r.target=t:=⟨_,rfl⟩;have X:=sD P.drew.u HI.out z.out.2.2.2.2.1.1 z.out.2.2.2.2.1.2;rw[Z]at X;have HT:=hid Z;have b8:=B.drew.cell (i:=4) rfl;have b9:=B.drew.cell (i:=5) rfl;have b6:=O.drew.cell (i:=3) rfl;clear Z q0;refine aB (by kernel_rfl) (by kernel_rfl) ?_
  repeat still_step
  refine wpStill_nil ?_;go_wp2_with fail
  all_goals(go_ret;refine⟨fy ?_,c.drew⟩;have e1:=HT.out;rw[←A.out];unfold mY;simp[F.out];omega)
 ·rw[hk]at q0
  have F:=hid hk;clear hk
  go_wp2_with (first
   |((with_reducible refine aj 59 (.tmp 3) M r.cells 59 _ B.out underlying59 rfl aV ?hgd ?ho ?hx ?_);(case hgd|ho|hx=>rfl))
   |fail)
  refine(DK I R m1 m2 m3 n first a U L G b r _ O.out P.out HI.out (by have:=z.out;omega)).mono ?_
  rintro e w7 ⟨rfl,D⟩;have y:=hid (c.trans (D.mono c.size));clear D;go_wp2_with fail
  (go_ret;refine⟨fy ?_,y.out⟩;rw[←A.out];unfold mY;simp[F.out])
 ·rw[hk]at q0
  have F:=hid hk;clear hk;go_wp2_with fail
  (go_ret;refine⟨fy ?_,c.out⟩;rw[←A.out];unfold mY;simp[F.out])
 ·rw[hk]at q0
  have F:=hid hk;clear hk
  go_wp2_with (first
   |((with_reducible refine aj 59 (.tmp 3) M r.cells 59 _ B.out underlying59 rfl aV ?hgd ?ho ?hx ?_);(case hgd|ho|hx=>rfl))
   |fail)
  refine(DO I R m1 m2 m3 n first a U L G b r _ O.out P.out HI.out (by have:=z.out;omega) (by have:=z.out;omega) hz bn.out).mono ?_
  rintro e w7 ⟨rfl,D⟩;have y:=hid (c.trans (D.mono c.size));clear D;go_wp2_with fail
  (go_ret;refine⟨fy ?_,y.out⟩;rw[←A.out];unfold mY;simp[F.out])
theorem Ls {b:av} {r:Rec} (h:r.kind=2):b.app r={b with till:=fun e=>if e=r.target then r.till else b.till e}:=by unfold av.app;rw[if_pos h]
theorem Lt {b:av} {r:Rec} (h:r.kind=3):b.app r={b with holds:=b.holds++[(r.nm,r.target)]}:=by unfold av.app;rw[if_neg (by rw[h];decide),if_pos h]
theorem Lu {b:av} {r:Rec} (h:r.kind=4):b.app r={b with holds:=b.holds.filter fun p=>decide (p.1≠r.nm)}:=by unfold av.app;rw[if_neg (by rw[h];decide),if_neg (by rw[h];decide),if_pos h]
theorem Lx {b:av} {r:Rec} (h:r.kind=5):b.app r={b with gone:=fun e=>if e=r.target then true else b.gone e}:=by unfold av.app;rw[if_neg (by rw[h];decide),if_neg (by rw[h];decide),if_neg (by rw[h];decide),if_pos h]
def IA (w':World) (bb c2 m1 m2 m3 n:Nat) (first epoch:Int) (b:av) (r:Rec):Prop:=∃n' U' L' G',ac w' bb (aT c2 first (if r.kind=1 then epoch+1 else epoch) m1 m2 m3) 193∧ac w' c2 [.bool true, .int .i64 r.time] 188∧bf w' m1 m2 m3 n' U' L' G'∧br U' L' G' (b.app r)∧n'≤n+1
theorem gV {w a:World} {k:TypeId} {R:Value→Option (DataW Unit×List MemPlace)} {b n c:Nat} {D:DataW Unit} (h:w.ownsMap prog k R b n D) (d:w.grownBy a (some c)) (hn:b≠c):a.ownsMap prog k R b (n+1) D:=
 (h.kept d (by intro e;injection e with e;exact hn e)).mono (Nat.le_succ n)
theorem rI (E D I B J n:Nat) (first d now:Int) (U L G:DataW Unit) (b:av) (r:Rec) (w:World) (h:ac w E (aT D first d I B J) 193) (hm:bf w I B J n U L G) (hi:br U L G b) (hc:ac w D [.bool true, .int .i64 now] 188) (N:aI r=true) (hz:n≤65536) (bm:dU) (A:cQ first d now b r=0) (bk:E≠D):
  Calls prog 86 #[.pointer (some ⟨E,0,none⟩),r.v] w fun x w'=>(x= .returned (.int .i64 0)∧IA w' E D I B J n first d b r)∧af [E,D,I,B,J] w w':=by
 have b5:=dh N;have bl:r.name.size≤16:=by omega
 have M:r.epoch=d∧¬r.time<now:=by
  have t:=A;unfold cQ at t;rw[if_neg (by rw[N];simp)]at t
  by_cases hx:¬r.epoch=d∨r.time<now
  ·rw[if_pos hx]at t;cases t
  ·exact⟨Classical.not_not.1 (fun h=>hx (.inl h)),fun h=>hx (.inr h)⟩
 have F:r.kind=3→(b.hold r.nm).isSome=false:=by
  intro h3;have t:=A;unfold cQ at t;rw[if_neg (by rw[N];simp),if_neg (fun h=>h.elim (fun h=>h M.1) M.2)]at t
  have h2:kx first b r=0:=by
   by_cases h2:kx first b r=0
   ·exact h2
   ·rw[if_neg h2]at t;exact absurd t h2
  rw[if_pos h2]at t;unfold mY at t;simp only[h3]at t;unfold tY at t
  cases hb:(b.hold r.nm).isSome with
  |false=>rfl
  |true=>rw[hb]at t;simp at t
 have P:=hid (fun(Y:World) (h:ac Y E (aT D first d I B J) 193) (hc:ac Y D [.bool true, .int .i64 now] 188) (hm:bf Y I B J n U L G)=>wM E D I B J n first d now U L G b r Y h hm hi hc (by omega) (by unfold Fits;omega) hz bm);rw[A]at P;have HB:=hid h;have HC:=hid hc;have HM:=hid hm;have HI:=hid hi;have a3:=hid bk;have a4:=hid bl;have bw:=hid F;have bv:=hid hc.lt;have HT:=hid (show 0≤r.time∧r.time≤1099511627776∧now≤r.time from⟨by omega,by omega,by omega⟩);have aA:=hid (show 0≤d∧d≤4294967295 from by rw[←M.1];exact⟨by omega,by omega⟩);have T:=hid (show 0≤r.target∧r.target≤4294967295 from by omega);have b2:=hid (show 0≤r.till∧r.till≤1099511627776 from by omega);have be:r.kind=1∨r.kind=2∨r.kind=3∨r.kind=4∨r.kind=5:=by omega
 have bx:=hid be;clear h hc hm hi N A b5 M F bk bm be bl;go_enter func86,ntmps86
 go_wp2_with (first
  |((with_reducible refine ae 59 (.tmp 1) r.cells (some 3) ?hgd ?ho ?hd ?hx ?_);(case hgd|ho|hd|hx=>rfl);(intro b3 w3 Z B3 e3 z3))
  |((with_reducible refine aj 59 (.tmp 3) b3 r.cells 59 _ B3 underlying59 rfl aV ?hgd ?ho ?hx ?_);(case hgd|ho|hx=>rfl))
  |fail)
 have a5:=hid B3;have b0:=hid Z;have O:=hid (e3.mono Z);have Q:=hid (HB.below (e3.mono Z) HB.lt);have R:=hid (HC.below (e3.mono Z) HC.lt);have a1:=hid (HM.below (e3.mono Z));clear B3 e3 z3 Z
 refine(P.out _ Q.out R.out a1.out).mono ?_
 rintro e w4 ⟨rfl,C⟩;have a6:=hid (a5.below C a5.lt);have ad:=hid (Q.below C Q.lt);have aq:=hid (R.below C R.lt);have a2:=hid (a1.below C);have an:=hid (O.trans (C.mono O.size));clear C;go_upto_region 4 with fail;refine wp_region_held_drew (S:=fun Y=>Y.cell? ⟨E,0,none⟩=some (.pointer (some ⟨D,0,none⟩))∧Y.cell? ⟨b3,2,none⟩=some (.int .i64 r.time)) (by kernel_rfl) (⟨ad.drew.cell (i:=0) rfl,a6.drew.cell (i:=2) rfl⟩) (fun y=> ?_);refine hp 0 ?_;refine hp 1 ?_;refine hp 2 ?_;refine hp 3 ?_;refine hp 4 ?_;refine hp 5 ?_;refine wpAnyH_ready (rs:=[6]) (by kernel_rfl) (by simp) ?_;refine AllReadyH.cons rfl (fun K hK=> ?_) AllReadyH.nil;go_simp
 refine(ku D now r.time _ aq.drew HT.out.1 HT.out.2.1 HT.out.2.2).mono ?_
 rintro e w5 ⟨⟨rfl,bd⟩,H⟩;have f:=hid (H.blk ad.drew (by simp;exact a3.out));have p:=hid (H.blk a6.drew (by simp;have:=b0.out;have:=bv.out;omega));have c:=hid (a2.drew.turned H (fun x hx=>by simp;exact a2.drew.ne aq.drew x hx));have o:=hid bd;have T5:=hid (show af [E,D,I,B,J] w w5 from((af.of_below an.out (Nat.le_refl _)).drew).trans (H.mono (by simp)));clear bd H
 (try go_wp2_with fail)
 refine hK.out _ _ (⟨f.cell (i:=0) rfl,p.cell (i:=2) rfl⟩) (fun z=> ?_);clear hK K y;have y:=z;clear z
 (try go_frame)
 refine wpAnyH_done (by kernel_rfl) ?_ _;clear y;have q0:=p.cell (i:=0) rfl
 rcases bx.out with j|j|j|j|j
 ·rw[j]at q0
  have q:=hid j;clear j;have cf:=f.cell (i:=2) rfl;have ck:=f.free 2;have cm:=aA.out.1;have co:=aA.out.2;go_wp2_with fail;go_ret;refine⟨⟨rfl,⟨n,U,L,G,(f.set 2 _).ext (by rw[if_pos q.out];rfl),o.set_other (by show D≠E;exact fun e=>a3.out e.symm) _,c.turned ((af.refl [E] _).setCell (.inl (by simp)) 2 _) (fun x hx=>by simp;exact c.ne f.out x hx), ?_,Nat.le_succ _⟩⟩,T5.trans ((af.refl _ _).setCell (.inl (by simp)) 2 _)⟩;have e:b.app r=b:=by unfold av.app;simp[q.out]
  rw[e];exact HI.out
 ·rw[j]at q0
  have q:=hid j;clear j;go_upto_region 10 with fail;have cg:=f.drew.cell (i:=3) rfl;have bo:=p.drew.cell (i:=4) rfl;have cu:=p.drew.cell (i:=5) rfl;have s:=hid (World.ownsMap.drew c.u);have cr:=(keyOf_int_mk underlying3 (WalkArith.wf_i64 (by have:=T.out;omega)):keyOf prog 3 (.int .i64 r.target)=some (.int .i64 r.target));refine aK 8 (by kernel_rfl) (by kernel_rfl) ?_;simp only[List.take_succ_cons,List.take_zero,List.drop_succ_cons,List.drop_zero]
  iterate 8 still_step
  refine wpStill_nil ?_
  go_wp2_with (first
   |(at_mapUpdate;refine wpList_mapUpdate_own _ rfl _ _ _ 189 rfl 3 3 jI underlying189 _ I n U rfl s.out (by unfold maxLen;omega) _ _ _ rfl rfl cr _ [] (plainElem_int underlying3 (WalkArith.wf_i64 (by have:=b2.out;omega))) ?_;intro w6 m a)
   |fail)
  have V:=f.drew.grown a (by have:=c.ne f.out;intro e;injection e with e;exact this I (.inl rfl) e.symm);have W:=o.drew.grown a (by have:=c.ne o.out;intro e;injection e with e;exact this I (.inl rfl) e.symm);go_ret;refine⟨⟨rfl,⟨n+1,_,_,_,V.ext (by rw[if_neg (by rw[q.out];decide)]),W,⟨m,gV (World.ownsMap.drew c.l) a (fun e=>c.n1 e.symm),gV (World.ownsMap.drew c.g) a (fun e=>c.n2 e.symm),c.n1,c.n2,c.n3⟩,by rw[Ls q.out];exact HI.two r.target r.till,Nat.le_refl _⟩⟩, ?_⟩;exact T5.drew.trans (af.of_grown a (fun k j=>by injection j with j;subst j;simp))
 ·rw[j]at q0
  have q:=hid j;clear j;go_upto_region 12 with fail;have b4:=f.drew.cell (i:=4) rfl;have bo:=p.drew.cell (i:=4) rfl;have b7:=p.drew.cell (i:=7) rfl;have s:=hid (World.ownsMap.drew c.l);have cr:keyOf prog 9 (.string r.name)=some (.string r.name.data.toList):=keyOf_string_mk underlying9 (by have:=a4.out;unfold maxLen;omega);refine aK 8 (by kernel_rfl) (by kernel_rfl) ?_;simp only[List.take_succ_cons,List.take_zero,List.drop_succ_cons,List.drop_zero]
  iterate 8 still_step
  refine wpStill_nil ?_
  go_wp2_with (first
   |(at_mapUpdate;refine wpList_mapUpdate_own _ rfl _ _ _ 190 rfl 9 3 fK underlying190 _ B n L rfl s.out (by unfold maxLen;omega) _ _ _ rfl rfl cr _ [] (plainElem_int underlying3 (WalkArith.wf_i64 (by have:=T.out;omega))) ?_;intro w6 m a)
   |fail)
  have V:=f.drew.grown a (by have:=c.ne f.out;intro e;injection e with e;exact this B (.inr (.inl rfl)) e.symm);have W:=o.drew.grown a (by have:=c.ne o.out;intro e;injection e with e;exact this B (.inr (.inl rfl)) e.symm);go_ret;refine⟨⟨rfl,⟨n+1,_,_,_,V.ext (by rw[if_neg (by rw[q.out];decide)]),W,⟨gV (World.ownsMap.drew c.u) a c.n1,m,gV (World.ownsMap.drew c.g) a (fun e=>c.n3 e.symm),c.n1,c.n2,c.n3⟩,by rw[Lt q.out];exact HI.three r.nm r.target (bw.out q.out) (m.tidy fK),Nat.le_refl _⟩⟩, ?_⟩;exact T5.drew.trans (af.of_grown a (fun k j=>by injection j with j;subst j;simp))
 ·rw[j]at q0
  have q:=hid j;clear j;go_upto_region 14 with fail;have b4:=f.drew.cell (i:=4) rfl;have b7:=p.drew.cell (i:=7) rfl;have s:=hid (World.ownsMap.drew c.l);have cr:keyOf prog 9 (.string r.name)=some (.string r.name.data.toList):=keyOf_string_mk underlying9 (by have:=a4.out;unfold maxLen;omega);refine aK 6 (by kernel_rfl) (by kernel_rfl) ?_;simp only[List.take_succ_cons,List.take_zero,List.drop_succ_cons,List.drop_zero]
  iterate 6 still_step
  refine wpStill_nil ?_
  go_wp2_with (first
   |(at_delete;refine wpList_delete_own _ rfl _ _ 190 9 rfl 3 fK underlying190 _ B n L rfl s.out _ _ rfl cr ?_;intro w6 m X;have a:=X.grown)
   |fail)
  have V:=f.drew.grown a (by have:=c.ne f.out;intro e;injection e with e;exact this B (.inr (.inl rfl)) e.symm);have W:=o.drew.grown a (by have:=c.ne o.out;intro e;injection e with e;exact this B (.inr (.inl rfl)) e.symm);go_ret;refine⟨⟨rfl,⟨n+1,_,_,_,V.ext (by rw[if_neg (by rw[q.out];decide)]),W,⟨gV (World.ownsMap.drew c.u) a c.n1,m.mono (Nat.le_succ n),gV (World.ownsMap.drew c.g) a (fun e=>c.n3 e.symm),c.n1,c.n2,c.n3⟩,by rw[Lu q.out];exact HI.four r.nm (m.tidy fK),Nat.le_refl _⟩⟩, ?_⟩;exact T5.drew.trans (af.of_grown a (fun k j=>by injection j with j;subst j;simp))
 ·rw[j]at q0
  have q:=hid j;clear j;go_upto_region 6 with fail;have ci:=f.drew.cell (i:=5) rfl;have bo:=p.drew.cell (i:=4) rfl;have s:=hid (World.ownsMap.drew c.g);have cr:=(keyOf_int_mk underlying3 (WalkArith.wf_i64 (by have:=T.out;omega)):keyOf prog 3 (.int .i64 r.target)=some (.int .i64 r.target));refine aK 6 (by kernel_rfl) (by kernel_rfl) ?_;simp only[List.take_succ_cons,List.take_zero,List.drop_succ_cons,List.drop_zero]
  iterate 6 still_step
  refine wpStill_nil ?_
  go_wp2_with (first
   |(at_mapUpdate;refine wpList_mapUpdate_own _ rfl _ _ _ 191 rfl 3 4 jI underlying191 _ J n G rfl s.out (by unfold maxLen;omega) _ _ _ rfl rfl cr _ [] (plainElem_bool underlying4 true) ?_;intro w6 m a)
   |fail)
  have V:=f.drew.grown a (by have:=c.ne f.out;intro e;injection e with e;exact this J (.inr (.inr rfl)) e.symm);have W:=o.drew.grown a (by have:=c.ne o.out;intro e;injection e with e;exact this J (.inr (.inr rfl)) e.symm);go_ret;refine⟨⟨rfl,⟨n+1,_,_,_,V.ext (by rw[if_neg (by rw[q.out];decide)]),W,⟨gV (World.ownsMap.drew c.u) a c.n2,gV (World.ownsMap.drew c.l) a c.n3,m,c.n1,c.n2,c.n3⟩,by rw[Lx q.out];exact HI.five r.target,Nat.le_refl _⟩⟩, ?_⟩;exact T5.drew.trans (af.of_grown a (fun k j=>by injection j with j;subst j;simp))
end Go.Proofs.YtadooplpfhdhcaaGreat
