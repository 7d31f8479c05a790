/- A volume's log, in plain words (chapters 25 and 26): what going through its blocks leads to; what a disk shows. No program in sight. Stat and Read (chapter 26) of any volume. Do (chapter 26) of each kind of call, out of its method's contract. -/
import Derived.Test.YtadooplpfhdhcaaGreatQ31
set_option linter.unusedSimpArgs false
set_option linter.unusedVariables false
set_option maxRecDepth 100000
set_option maxHeartbeats 4000000
namespace Go.Proofs.YtadooplpfhdhcaaGreat
open Go Go.RowKit Go.Maps Go.WideMaps
open Go.Lib (hid)
open Go.Proofs.Tryz
def eW (r:Rec) (t:ByteArray):ByteArray:=⟨(cD r++t.data.toList).toArray⟩
structure RS where
 epoch:Int
 now:Int
 b:av
 sealed:List aD
 vers:List ag
def RS.zero (f:Int):RS:=⟨f,0,av.none,[],[]⟩
def RS.cell (s:RS) (x:AV) (k:Nat):RS:={s with vers:=eC s.vers ⟨x.lba,x.epoch,(k:Int)⟩}
def RS.put (s:RS) (r:Rec) (t:ByteArray):RS:=⟨if r.kind=1 then s.epoch+1 else s.epoch,r.time,s.b.app r,s.sealed++[⟨r,t⟩],s.vers⟩
structure yF (first:Int) (log:List LE) (s:RS) (r:Rec) (t:ByteArray):Prop where
 may:cQ first s.epoch s.now s.b r=0
 tag:t.size=32
 count:r.kind=1→r.count=((cellsOf log s.vers s.epoch).length:Int)
 root:r.kind=1→(∀(k:Nat) x c,log[k]?=some (LE.cell x c)→c.epoch=s.epoch→c.gone=false)→r.root.data.toList=re s.epoch (cellsOf log s.vers s.epoch)
structure vx (first:Int) (log:List LE) (S:Nat→RS):Prop where
 zero:S 0=RS.zero first
 cell:∀(k:Nat) x c,log[k]?=some (LE.cell x c)→x.epoch=(S k).epoch∧S (k+1)=(S k).cell x k
 held:∀(k:Nat) s,log[k]?=some (LE.held s)→∃r t,s=eW r t∧yF first (log.take k) (S k) r t∧S (k+1)=(S k).put r t
def Rep (first:Int) (log:List LE) (s:RS):Prop:=∃S,vx first log S∧S log.length=s
theorem Rep.nil (first:Int):Rep first [] (RS.zero first):=⟨fun _=>RS.zero first,⟨rfl,fun k x c h=>by simp at h,fun k s h=>by simp at h⟩,rfl⟩
theorem Rep.snoc {first:Int} {log:List LE} {s s':RS} (h:Rep first log s) (e:LE) (hc:∀x c,e=LE.cell x c→x.epoch=s.epoch∧s'=s.cell x log.length) (j:∀q,e=LE.held q→∃r t,q=eW r t∧yF first log s r t∧s'=s.put r t):Rep first (log++[e]) s':=by
 obtain⟨S,g,hl⟩:=h
 have b:∀(k:Nat) d,(log++[e])[k]?=some d→(k<log.length∧log[k]?=some d)∨(k=log.length∧e=d):=fun k d a=>by
  by_cases f:k<log.length
  ·rw[List.getElem?_append_left f]at a
   exact .inl ⟨f,a⟩
  ·have i:k=log.length:=by have:=(List.getElem?_eq_some_iff.1 a).1;simp at this;omega
   subst i;rw[List.getElem?_append_right (Nat.le_refl _)]at a;simp at a;exact .inr ⟨rfl,a⟩
 refine⟨fun k=>if k≤log.length then S k else s',⟨?_,fun k x c a=> ?_,fun k q a=> ?_⟩, ?_⟩
 ·show(if 0≤log.length then S 0 else s')= _
  rw[if_pos (Nat.zero_le _)];exact g.zero
 ·show x.epoch=(if k≤log.length then S k else s').epoch∧(if k+1≤log.length then S (k+1)else s')=(if k≤log.length then S k else s').cell x k
  rcases b k _ a with⟨h1,h2⟩|⟨rfl,h2⟩
  ·rw[if_pos (by omega),if_pos (by omega)]
   exact g.cell k x c h2
  ·rw[if_pos (Nat.le_refl _),if_neg (by omega),hl]
   exact hc x c h2
 ·show ∃r t,q=eW r t∧yF first ((log++[e]).take k) (if k≤log.length then S k else s') r t∧(if k+1≤log.length then S (k+1)else s')=(if k≤log.length then S k else s').put r t
  rcases b k _ a with⟨h1,h2⟩|⟨rfl,h2⟩
  ·rw[if_pos (by omega),if_pos (by omega),List.take_append_of_le_length (by omega)]
   exact g.held k q h2
  ·rw[if_pos (Nat.le_refl _),if_neg (by omega),hl,List.take_append_of_le_length (Nat.le_refl _),List.take_of_length_le (Nat.le_refl _)]
   exact j q h2
 ·show(if(log++[e]).length≤log.length then S (log++[e]).length else s')=s'
  rw[if_neg (by simp)]
theorem bY.nil (key:ByteArray) (b:av):bY [] key b []:=
 ⟨fun k x c e=>by simp at e,fun j k x c y d h m e=>by simp at e,fun t x l=>by simp at l,fun k y c e=>by simp at e,fun i j a d f hd g=>by simp at f⟩
theorem vx.is {first:Int} {log:List LE} {S:Nat→RS} {key:ByteArray} {b:av} {l:List ag} (h:vx first log S) (n:bY log key b l):∀k,k≤log.length→bY (log.take k) key b (S k).vers
 |0,_=>by
  rw[h.zero];exact bY.nil key b
 |k+1,hk=>by
  have ih:=h.is n k (by omega);have f:log[k]?=some log[k]:=List.getElem?_eq_getElem (by omega);have i:(log.take k).length=k:=by rw[List.length_take];omega
  have g:∀(j:Nat) e,(log.take k)[j]?=some e→j<k∧log[j]?=some e:=fun j e a=>by
   rw[List.getElem?_take]at a
   split at a
   ·exact⟨by assumption,a⟩
   ·cases a
  rw[List.take_succ_eq_append_getElem (by omega)]
  cases he:log[k]with
  |held s=>
   rw[he]at f;obtain⟨r,t,_,_,m⟩:=h.held k s f;rw[m];exact ih.record rfl s
  |cell x c=>
   rw[he]at f;obtain⟨_,m⟩:=h.cell k x c f;rw[m];have o:=ih.write (x:=x) (c:=c) (by rw[i];exact n.fit k x c f) (fun j y d a=>n.mono j k y d x c (by have:=(g j _ a).1;omega) (g j _ a).2 f);rw[i]at o;exact o
theorem IM {log:List LE} {t:Int} {k:Nat} {x:AV} {d:ak} (h:(log.map (cZ t))[k]?=some (LE.cell x d)):∃c,log[k]?=some (LE.cell x c)∧d=if c.epoch=t then gd c else c:=by
 rw[List.getElem?_map,Option.map_eq_some_iff]at h;obtain⟨e,f,a⟩:=h
 cases e with
 |held s=>cases a
 |cell y c=>
  unfold cZ at a;simp only at a
  split at a
  ·rename_i b;injection a with h4 h5;subst h4;exact⟨c,f,by rw[if_pos b,h5]⟩
  ·rename_i b;injection a with h4 h5;subst h4;exact⟨c,f,by rw[if_neg b,h5]⟩
theorem zP {log:List LE} {t:Int} {k:Nat} {x:AV} {c:ak} (h:log[k]?=some (LE.cell x c)):(log.map (cZ t))[k]?=some (LE.cell x (if c.epoch=t then gd c else c)):=by
 rw[List.getElem?_map,h]
 show some (cZ t (.cell x c))= _
 unfold cZ;simp only
 split<;>rfl
theorem Rep.wipe {first:Int} {log:List LE} {s:RS} {key:ByteArray} {b:av} {o:List ag} (h:Rep first log s) (A:bY log key b o) (t:Int):Rep first (log.map (cZ t)) s:=by
 obtain⟨S,p,hl⟩:=h;refine⟨S,⟨p.zero,fun k x d v=> ?_,fun k q v=> ?_⟩,by rw[List.length_map];exact hl⟩
 ·obtain⟨c,g,_⟩:=IM v
  exact p.cell k x c g
 ·have m:log[k]?=some (LE.held q):=by
   rw[List.getElem?_map,Option.map_eq_some_iff]at v;obtain⟨e,g,l⟩:=v
   cases e with
   |held s=>rw[g,l.symm];rfl
   |cell x c=>unfold cZ at l;simp only at l;split at l<;>cases l
  obtain⟨r,E,C,w,D⟩:=p.held k q m;have B:=p.is A k (by have:=(List.getElem?_eq_some_iff.1 m).1;omega);refine⟨r,E,C,⟨w.may,w.tag,fun g=> ?_,fun g a=> ?_⟩,D⟩
  ·rw[w.count g,cellsOf_length,cellsOf_length]
  ·rw[←List.map_take]at a ⊢
   have i:cellsOf ((log.take k).map (cZ t)) (S k).vers (S k).epoch=cellsOf (log.take k) (S k).vers (S k).epoch:=nJ B _ (fun j y c z u=>by
    have f:=zP (t:=t) z
    by_cases n:c.epoch=t
    ·rw[if_pos n]at f
     have:=a j y _ f u
     cases this
    ·rw[if_neg n]at f
     exact f)
   rw[i];refine w.root g (fun j y c z u=> ?_);have f:=zP (t:=t) z
   by_cases n:c.epoch=t
   ·rw[if_pos n]at f
    have:=a j y _ f u
    cases this
   ·rw[if_neg n]at f
    exact a j y c f u
structure eJ (v:ai):Prop where
 sup:ah (v.d.shown (v.last.gen % 2)) (cG v.last)
 old:(v.last.gen=1∧v.d.shown 0=bT)∨∃s,eL s∧s.gen<v.last.gen∧ah (v.d.shown ((v.last.gen+1) % 2)) (cG s)
 key:ah (v.d.shown (2+v.last.epoch % 2)) (ew v.last.epoch v.key.data.toList)
 bare:v.d.shown (2+(v.last.epoch+1) % 2)=bT
 free:∀k:Int,v.used≤k→k<v.last.geo.blocks-4→v.d.shown (4+k)=bT
theorem eJ.put {v:ai} (h:eJ v) (hu:0≤v.used) (e:Value) (b:ByteArray):eJ (jm v e b):=by
 have g:∀j,(jm v e b).d.shown j=if 4+v.used=j then b else v.d.shown j:=qp v e b
 have a:∀j,j<4→(jm v e b).d.shown j=v.d.shown j:=fun j l=>by rw[g,if_neg (by omega)]
 refine⟨?_, ?_, ?_, ?_,fun k i c=> ?_⟩
 ·rw[a _ (by show v.last.gen % 2<4;omega)];exact h.sup
 ·rcases h.old with⟨c,f⟩|⟨s,c,f,h3⟩
  ·exact .inl ⟨c,by rw[a 0 (by omega)];exact f⟩
  ·exact .inr ⟨s,c,f,by rw[a _ (by show(v.last.gen+1) % 2<4;omega)];exact h3⟩
 ·rw[a _ (by show 2+v.last.epoch % 2<4;omega)];exact h.key
 ·rw[a _ (by show 2+(v.last.epoch+1) % 2<4;omega)];exact h.bare
 ·have f:v.used+1≤k:=i
  rw[g,if_neg (by omega)];exact h.free k (by omega) c
theorem eJ.com {v:ai} (h:eJ v) (a:bp v) {t:Int} {q:ByteArray} (g:ah q (cG (dz v t))):eJ (iD v t q):=by
 have n:=a.sup.geo.b0;have l:=a.sup.g0;have b:∀j,0≤j→(iD v t q).d.shown j=if(v.last.gen+1) % 2=j then q else v.d.shown j:=fun j f=>qq a.calm (by omega) t q j f
 have i:=a.sup.e0;have o:=a.u0;refine⟨?_, .inr ⟨v.last,a.sup,by show v.last.gen<v.last.gen+1;omega, ?_⟩, ?_, ?_,fun k c e=> ?_⟩
 ·show ah ((iD v t q).d.shown ((v.last.gen+1) % 2)) _
  rw[b _ (by omega),if_pos rfl];exact g
 ·show ah ((iD v t q).d.shown ((v.last.gen+1+1) % 2)) _
  rw[b _ (by omega),if_neg (by omega),show(v.last.gen+1+1) % 2=v.last.gen % 2 by omega];exact h.sup
 ·show ah ((iD v t q).d.shown (2+v.last.epoch % 2)) _
  rw[b _ (by omega),if_neg (by omega)];exact h.key
 ·show(iD v t q).d.shown (2+(v.last.epoch+1) % 2)= _
  rw[b _ (by omega),if_neg (by omega)];exact h.bare
 ·have m:v.used≤k:=c
  rw[b _ (by omega),if_neg (by omega)];exact h.free k c e
theorem eJ.disk {v:ai} (h:eJ v) (e:bp v) {d:am} (hd:∀j,0≤j→(j<4∨4+v.used≤j)→d.shown j=v.d.shown j):eJ {v with d:=d}:=by
 have f:=e.sup.e0;have g:=e.u0;refine⟨?_, ?_, ?_, ?_,fun k c a=> ?_⟩
 ·show ah (d.shown (v.last.gen % 2)) _
  rw[hd _ (by omega) (.inl (by omega))];exact h.sup
 ·rcases h.old with⟨a,b⟩|⟨s,a,b,h3⟩
  ·exact .inl ⟨a,by show d.shown 0= _;rw[hd 0 (by omega) (.inl (by omega))];exact b⟩
  ·exact .inr ⟨s,a,b,by show ah (d.shown ((v.last.gen+1) % 2)) _;rw[hd _ (by omega) (.inl (by omega))];exact h3⟩
 ·show ah (d.shown (2+v.last.epoch % 2)) _
  rw[hd _ (by omega) (.inl (by omega))];exact h.key
 ·show d.shown (2+(v.last.epoch+1) % 2)= _
  rw[hd _ (by omega) (.inl (by omega))];exact h.bare
 ·have b:v.used≤k:=c
  show d.shown (4+k)= _
  rw[hd _ (by omega) (.inr (by omega))];exact h.free k c a
theorem xZ {v:ai} {n m:Nat} (h:Calm v.d n m) (e:0≤v.used) (f:4+v.used<n) (c:4≤n) (a kb q nb:ByteArray) (i:Int) (b:0≤i) (o:i<4):
  (ff v a kb q nb).shown i=if 2+v.last.epoch % 2=i then nb else if(v.last.gen+1) % 2=i then q else if 2+(v.last.epoch+1) % 2=i then kb else v.d.shown i:=by
 rw[qz,dj (mF h e f c a kb q nb) i b]
 have l:(rf v a kb q nb).shown i=if 2+v.last.epoch % 2=i then nb else(gx v a kb q).flushed.shown i:=
  dr (gx v a kb q).flushed (gx v a kb q).flushed.cv (2+v.last.epoch % 2) i nb
 have k:(gx v a kb q).shown i=if(v.last.gen+1) % 2=i then q else(gu v a kb).flushed.shown i:=
  dr (gu v a kb).flushed (gu v a kb).flushed.cv ((v.last.gen+1) % 2) i q
 have j:(gu v a kb).shown i=if 2+(v.last.epoch+1) % 2=i then kb else({v.d with cs:=v.d.cs++[(4+v.used,a)]}:am).shown i:=
  dr ({v.d with cs:=v.d.cs++[(4+v.used,a)]}:am) v.d.cv (2+(v.last.epoch+1) % 2) i kb
 have g:=dr v.d v.d.cv (4+v.used) i a;rw[if_neg (by omega)]at g;rw[l,dj (mE h e f c a kb q) i b,k,dj (mD h e f c a kb) i b,j];rw[show({v.d with cs:=v.d.cs++[(4+v.used,a)]}:am).shown i=v.d.shown i from g]
theorem eJ.close {v:ai} (h:eJ v) (f:bp v) (hu:v.used<v.last.geo.blocks-4) {a:Int} {s t b e kb q nb:ByteArray} (o:ah kb (ew (v.last.epoch+1) e.data.toList)) (p:ah q (cG (ev v v.clock))) (hn:nb=bT):eJ (je v a s t b e kb q nb):=by
 have x:=f.sup.geo.b0;have w:=f.sup.g0;have r:=f.sup.e0;have u:=f.sup.geo.f0;have m:=f.u0;have c:∀i,0≤i→i<4→(je v a s t b e kb q nb).d.shown i=if 2+v.last.epoch % 2=i then nb else if(v.last.gen+1) % 2=i then q else if 2+(v.last.epoch+1) % 2=i then kb else v.d.shown i:=fun i g l=>xZ f.calm m (by omega) (by omega) b kb q nb i g l
 have j:∀i,4≤i→(je v a s t b e kb q nb).d.shown i=if 4+v.used=i then b else v.d.shown i:=fun i g=>ke f.calm m (by omega) (by omega) b kb q nb i g
 refine⟨?_, .inr ⟨v.last,f.sup,by show v.last.gen<v.last.gen+1;omega, ?_⟩, ?_, ?_,fun k n g=> ?_⟩
 ·show ah ((je v a s t b e kb q nb).d.shown ((v.last.gen+1) % 2)) _
  rw[c _ (by omega) (by omega),if_neg (by omega),if_pos rfl];exact p
 ·show ah ((je v a s t b e kb q nb).d.shown ((v.last.gen+1+1) % 2)) _
  rw[c _ (by omega) (by omega),if_neg (by omega),if_neg (by omega),if_neg (by omega),show(v.last.gen+1+1) % 2=v.last.gen % 2 by omega];exact h.sup
 ·show ah ((je v a s t b e kb q nb).d.shown (2+(v.last.epoch+1) % 2)) _
  rw[c _ (by omega) (by omega),if_neg (by omega),if_neg (by omega),if_pos rfl];exact o
 ·show(je v a s t b e kb q nb).d.shown (2+(v.last.epoch+1+1) % 2)= _
  rw[c _ (by omega) (by omega),if_pos (by omega)];exact hn
 ·have l:v.used+1≤k:=n
  rw[j _ (by omega),if_neg (by omega)];exact h.free k (by omega) g
def jy (v:ai) (b:av):List Value:=[.int .i64 v.epoch, .int .i64 v.clock, .int .i64 (bX v.last.geo v.used), .int .i64 (v.sealed.length:Int), .int .i64 ((dn v.vers).1:Int), .int .i64 (b.holds.length:Int)]
theorem vy (v:ai) (b:av):∀x∈jy v b,x.oneCell'=true:=by intro x a;simp[jy]at a;rcases a with rfl|rfl|rfl|rfl|rfl|rfl<;>rfl
theorem Gn (a b c d e f:Int):prog.built 38 [(0, .int .i64 a),(1, .int .i64 b),(2, .int .i64 c),(3, .int .i64 d),(4, .int .i64 e),(5, .int .i64 f)]=some (#[.int .i64 a, .int .i64 b, .int .i64 c, .int .i64 d, .int .i64 e, .int .i64 f]:Array Value):=by kernel_rfl
theorem Ee (i:ap) (v:ai) (b:av) (w:World) (h:al w i v) (X:bp v) (C:br v.U v.L v.G b) (F:v.vers.length≤4096) (Q:v.sealed.length≤1048576):
  Calls prog 34 #[.pointer (some ⟨i.vb,0,none⟩)] w fun e w'=>e= .returned (.tuple #[.agg (jy v b).toArray, .int .i64 0])∧Below w.heap.size w w':=by
 have V:=hid h;have O:=hid X;have N:=hid C;have P:=hid F;obtain⟨ps,cs,E⟩:=az h.sealed;have d:=hid E;have Z:(v.sealed.length:Int)≤1048576:=by omega
 clear h X C F E Q;go_enter func34,ntmps34
 go_wp2_with (first
  |((with_reducible refine ab 38 _ wT (some 2) ?hgd ?ho ?hd ?_);(case hgd|ho|hd=>rfl);(intro Y S R T W z1))
  |fail)
 have s:=hid T;have M:=hid R;have q:=hid (W.mono R);have p:=hid (V.below q.out);clear T W z1 R
 refine(aP i v _ p.out).mono ?_
 rintro e w' ⟨rfl,rfl⟩;go_upto_region 3 with fail;refine hb (fun r=>r.cell? ⟨i.vb,5,none⟩=some (.pointer (some ⟨i.bb,0,none⟩))∧r.cell? ⟨i.vb,6,none⟩=some (.pointer (some ⟨i.cb,0,none⟩))∧r.cell? ⟨i.vb,0,none⟩=some (.pointer (some ⟨i.jb,0,none⟩))∧r.cell? ⟨i.vb,3,none⟩=some (.pointer (some ⟨i.xb,0,none⟩))∧r.cell? ⟨i.vb,4,none⟩=some (.slice ps v.sealed.length cs)) (⟨p.vol.drew.cell (i:=5) rfl,p.vol.drew.cell (i:=6) rfl,p.vol.drew.cell (i:=0) rfl,p.vol.drew.cell (i:=3) rfl,(by rw[←d.out];exact p.vol.drew.cell (i:=4) rfl)⟩) fun a=> ?_
 obtain⟨wd,m⟩:∃r,r=S.drew:=⟨_,rfl⟩;have j:Below S.heap.size S wd:=by rw[m];exact(Below.refl _ _).drew
 rw[←m];rw[←m]at a;clear m;have f:=hid (p.below j);have t:=hid (s.below j s.lt);have x:=hid (q.trans (j.mono q.size));clear j;refine hp 0 ?_;refine hp 1 ?_;refine hp 2 ?_;refine hp 3 ?_;refine hp 5 ?_;refine hp 6 ?_;refine hp 7 ?_;refine hp 8 ?_;refine hp 10 ?_;refine hp 11 ?_;refine hp 12 ?_;refine hp 13 ?_;refine hp 15 ?_;refine hp 16 ?_;refine hp 17 ?_;refine hp 18 ?_;refine hp 20 ?_;refine hp 21 ?_;refine hp 22 ?_;refine hp 23 ?_;refine hp 25 ?_;refine hp 26 ?_;refine hp 27 ?_;refine hp 28 ?_;refine hp 19 ?_;refine hc 4 fun K c=> ?_
 go_simp
 refine(aR i.bb i.c2 v.first v.epoch i.m1 i.m2 i.m3 _ f.book).mono ?_
 rintro e w' ⟨rfl,rfl⟩
 (try go_wp2_with fail)
 refine c.out _ _ (⟨f.vol.cell (i:=5) rfl,f.vol.cell (i:=6) rfl,f.vol.cell (i:=0) rfl,f.vol.cell (i:=3) rfl,(by rw[←d.out];exact f.vol.cell (i:=4) rfl)⟩) fun _=> ?_
 clear c K a;rename_i a
 (try go_frame)
 refine hc 9 fun K c=> ?_
 go_simp
 refine(dC i.cb v.clock _ f.clock).mono ?_
 rintro e w' ⟨rfl,rfl⟩
 (try go_wp2_with fail)
 refine c.out _ _ (⟨f.vol.cell (i:=5) rfl,f.vol.cell (i:=6) rfl,f.vol.cell (i:=0) rfl,f.vol.cell (i:=3) rfl,(by rw[←d.out];exact f.vol.cell (i:=4) rfl)⟩) fun _=> ?_
 clear c K a;rename_i a
 (try go_frame)
 refine hc 14 fun K c=> ?_
 go_simp
 refine(jT i v _ f.out O.out).mono ?_
 rintro e we ⟨rfl,k⟩;have o:=hid (f.below k);have u:=hid (t.below k t.lt);have y:=hid (x.trans (k.mono x.size));clear k
 (try go_wp2_with fail)
 refine c.out _ _ (⟨o.vol.cell (i:=5) rfl,o.vol.cell (i:=6) rfl,o.vol.cell (i:=0) rfl,o.vol.cell (i:=3) rfl,(by rw[←d.out];exact o.vol.cell (i:=4) rfl)⟩) fun _=> ?_
 clear c K a;rename_i a
 (try go_frame)
 refine hc 24 fun K c=> ?_
 go_simp
 refine(BC i.xb _ i.xv v.vers _ o.index o.vers rfl P.out).mono ?_
 rintro e wf ⟨rfl,l⟩;have g:=hid (o.below l);have H:=hid (u.below l u.lt);have J:=hid (y.trans (l.mono y.size));clear l
 (try go_wp2_with fail)
 refine c.out _ _ (⟨g.vol.cell (i:=5) rfl,g.vol.cell (i:=6) rfl,g.vol.cell (i:=0) rfl,g.vol.cell (i:=3) rfl,(by rw[←d.out];exact g.vol.cell (i:=4) rfl)⟩) fun _=> ?_
 clear c K a;rename_i a
 (try go_frame)
 refine hc 29 fun K c=> ?_
 go_simp
 refine(DL i.bb i.c2 i.m1 i.m2 i.m3 v.n v.first v.epoch v.U v.L v.G b _ g.book g.maps N.out).mono ?_
 rintro e w' ⟨rfl,rfl⟩
 (try go_wp2_with fail)
 refine c.out _ _ (⟨g.vol.cell (i:=5) rfl,g.vol.cell (i:=6) rfl,g.vol.cell (i:=0) rfl,g.vol.cell (i:=3) rfl,(by rw[←d.out];exact g.vol.cell (i:=4) rfl)⟩) fun _=> ?_
 clear c K a;rename_i a
 (try go_frame)
 refine hu 30 38 (jy v b) (parts:=#[(0, .tmp 12),(1, .tmp 17),(2, .tmp 22),(3, .tmp 27),(4, .tmp 32),(5, .tmp 37)]) (by refine Eq.trans ?_ (Gn v.epoch v.clock (bX v.last.geo v.used) (v.sealed.length:Int) ((dn v.vers).1:Int) (b.holds.length:Int));kernel_rfl) ?_;refine hc 31 fun K c=> ?_
 refine kj 38 (.tmp 2) (.tmp 38) Y m7 (jy v b) 38 H.out rfl wU (vy v b) rfl rfl rfl ?_;intro wg B D;have I:=hid B;have z:=hid (D.below J.out M.out);have A:=hid (V.below z.out);clear B D;refine c.out _ _ (⟨A.vol.cell (i:=5) rfl,A.vol.cell (i:=6) rfl,A.vol.cell (i:=0) rfl,A.vol.cell (i:=3) rfl,(by rw[←d.out];exact A.vol.cell (i:=4) rfl)⟩) fun _=> ?_
 clear c K a;rename_i a
 (try go_frame)
 refine hp 32 ?_;refine hd ?_;clear a;go_wp2_with fail
 (try simp only[Exit.inBlock,Exit.then])
 refine bodyPost_ret (aU rfl _ _ I.range rfl underlying38 rfl wU) rfl ⟨rfl,z.out⟩
def Step (Φ:Int→ap→ai→Prop) (w:World) (i:ap) (v:ai) (e:Ending) (w':World):Prop:=∃k i' v',e= .returned (.int .i64 k)∧aJ w w' i v i' v'∧Φ k i' v'
def Ly (Φ:Int→ap→ai→Prop) (w:World) (i:ap) (v:ai) (e:Ending) (w':World):Prop:=∃(r:bJ) (k:Int) (i':ap) (v':ai),e= .returned (.tuple #[r.v, .int .i64 k])∧aJ w w' i v i' v'∧Φ k i' v'
def StepA (Φ:Int→ap→ai→Prop) (w:World) (i:ap) (v:ai) (e:Ending) (w':World):Prop:=∃k i' v',e= .returned (.agg (cF k).toArray)∧aJ w w' i v i' v'∧Φ k i' v'
theorem aJ.fresh {w f:World} {i a:ap} {v c:ai} (h:aJ w f i v a c) {b:Nat} (hb:b∉i.foot v.d) (hl:b<w.heap.size):b∉a.foot c.d:=fun e=>(h.foot b e).elim hb (fun g=>by omega)
theorem Gp (Φ:Int→ap→ai→Prop) (i:ap) (v:ai) (c:aG) (w:World) (h:al w i v) (H:c.kind=1) (z:∀A,al A i v→Calls prog 24 #[.pointer (some ⟨i.vb,0,none⟩), .int .i64 c.lba, .string c.data] A fun e w'=>Step Φ A i v e w'):
  Calls prog 9 #[.pointer (some ⟨i.vb,0,none⟩),c.v] w fun e w'=>StepA Φ w i v e w':=by
 obtain⟨I,lba,b,r,p,q,S,R,Q⟩:=c;simp only at H z;subst H;have O:∀(G:Fn) (first o:Array Value) (w:World),(Instr.makeFunc G first o).run prog w= .ok (.func G first o) w:=fun _ _ _ _=>rfl
 have D:=hid h;have L:=hid z;clear h z;go_enter func9,ntmps9
 go_wp2_with (first
  |((with_reducible refine ae 36 (.tmp 1) (aG.cells ⟨1,lba,b,r,p,q,S,R,Q⟩) (some 3) ?hgd ?ho ?hd ?hx ?_);(case hgd|ho|hd|hx=>rfl);(intro Z w1 t B F x))
  |((with_reducible refine ab 40 _ eI (some 4) ?hgd ?ho ?hd ?_);(case hgd|ho|hd=>rfl);(intro N w2 u C y Y))
  |fail)
 have d:Below w.heap.size w w2:=(F.mono t).trans (y.mono (Nat.le_trans t (Nat.le_trans (Nat.le_of_lt x) u)));have g:=hid (Nat.le_trans t (Nat.le_trans (Nat.le_of_lt x) u));have a:=hid (B.below y (Nat.lt_of_lt_of_le x u));have m:=hid C;have f:=hid d;have E:=hid (D.below d);have j:=hid (D.fresh g.out);clear B C F y t u x Y d
 refine(aP i v _ E.out).mono ?_
 rintro e w' ⟨rfl,rfl⟩;have U:=a.cell (i:=0) rfl;have V:=a.cell (i:=1) rfl;have W:=a.cell (i:=4) rfl;go_wp2_with fail
 refine(L.out _ E.out).mono ?_
 rintro e w3 ⟨k,P,X,rfl,s,hf⟩;have M:=hid (aJ.ahead f.out s);have K:=hid hf;have n:=hid (s.turned.blk m.out j.out);have l:=hid (s.fresh j.out m.lt);clear s hf U V W
 go_wp2_with (first
  |((with_reducible refine au 40 ?parts (cF k) ?hg ?ho ?hf ?_);(case hg|ho=>rfl);(case hf=>exact fP k))
  |((with_reducible refine aa 40 (.tmp 4) (.tmp 87) N (cF 0) (cF k) 40 n.out rfl cR (jd k) ?hgd ?ho ?hx ?hy ?_);(case hgd|ho|hx|hy=>rfl);(intro w5 J T))
  |fail)
 (try simp only[Exit.inBlock,Exit.then])
 refine bodyPost_ret (aY rfl _ _ J.range rfl underlying40 rfl cR) rfl ⟨k,P,X,rfl,M.away (T.turned (by simp)) l.out g.out,K.out⟩
theorem Gq (Φ:Int→ap→ai→Prop) (i:ap) (v:ai) (c:aG) (w:World) (h:al w i v) (H:c.kind=4) (z:∀A,al A i v→Calls prog 10 #[.pointer (some ⟨i.vb,0,none⟩)] A fun e w'=>Step Φ A i v e w'):
  Calls prog 9 #[.pointer (some ⟨i.vb,0,none⟩),c.v] w fun e w'=>StepA Φ w i v e w':=by
 obtain⟨I,lba,a,q,o,p,S,R,Q⟩:=c;simp only at H z;subst H;have O:∀(G:Fn) (first n:Array Value) (w:World),(Instr.makeFunc G first n).run prog w= .ok (.func G first n) w:=fun _ _ _ _=>rfl
 have D:=hid h;have L:=hid z;clear h z;go_enter func9,ntmps9
 go_wp2_with (first
  |((with_reducible refine ae 36 (.tmp 1) (aG.cells ⟨4,lba,a,q,o,p,S,R,Q⟩) (some 3) ?hgd ?ho ?hd ?hx ?_);(case hgd|ho|hd|hx=>rfl);(intro X Y s B F u))
  |((with_reducible refine ab 40 _ eI (some 4) ?hgd ?ho ?hd ?_);(case hgd|ho|hd=>rfl);(intro N w2 t C y W))
  |fail)
 have b:Below w.heap.size w w2:=(F.mono s).trans (y.mono (Nat.le_trans s (Nat.le_trans (Nat.le_of_lt u) t)));have f:=hid (Nat.le_trans s (Nat.le_trans (Nat.le_of_lt u) t));have x:=hid (B.below y (Nat.lt_of_lt_of_le u t));have l:=hid C;have d:=hid b;have E:=hid (D.below b);have g:=hid (D.fresh f.out);clear B C F y s t u W b
 refine(aP i v _ E.out).mono ?_
 rintro e w' ⟨rfl,rfl⟩;have U:=x.cell (i:=0) rfl;go_wp2_with fail
 refine(L.out _ E.out).mono ?_
 rintro e Z ⟨k,P,V,rfl,r,hf⟩;have M:=hid (aJ.ahead d.out r);have K:=hid hf;have m:=hid (r.turned.blk l.out g.out);have j:=hid (r.fresh g.out l.lt);clear r hf U
 go_wp2_with (first
  |((with_reducible refine au 40 ?parts (cF k) ?hg ?ho ?hf ?_);(case hg|ho=>rfl);(case hf=>exact fP k))
  |((with_reducible refine aa 40 (.tmp 4) (.tmp 87) N (cF 0) (cF k) 40 m.out rfl cR (jd k) ?hgd ?ho ?hx ?hy ?_);(case hgd|ho|hx|hy=>rfl);(intro w5 J T))
  |fail)
 (try simp only[Exit.inBlock,Exit.then])
 refine bodyPost_ret (aY rfl _ _ J.range rfl underlying40 rfl cR) rfl ⟨k,P,V,rfl,M.away (T.turned (by simp)) j.out f.out,K.out⟩
theorem Gs (Φ:Int→ap→ai→Prop) (i:ap) (v:ai) (c:aG) (w:World) (h:al w i v) (J:c.kind=5) (A:∀B,al B i v→Calls prog 25 #[.pointer (some ⟨i.vb,0,none⟩)] B fun e w'=>Ly Φ B i v e w'):
  Calls prog 9 #[.pointer (some ⟨i.vb,0,none⟩),c.v] w fun e w'=>StepA Φ w i v e w':=by
 obtain⟨K,lba,a,q,o,p,U,T,S⟩:=c;simp only at J A;subst J;have Q:∀(H:Fn) (first n:Array Value) (w:World),(Instr.makeFunc H first n).run prog w= .ok (.func H first n) w:=fun _ _ _ _=>rfl
 have E:=hid h;have N:=hid A;clear h A;go_enter func9,ntmps9
 go_wp2_with (first
  |((with_reducible refine ae 36 (.tmp 1) (aG.cells ⟨5,lba,a,q,o,p,U,T,S⟩) (some 3) ?hgd ?ho ?hd ?hx ?_);(case hgd|ho|hd|hx=>rfl);(intro Z w1 t C G x))
  |((with_reducible refine ab 40 _ eI (some 4) ?hgd ?ho ?hd ?_);(case hgd|ho|hd=>rfl);(intro P w2 u D z Y))
  |fail)
 have b:Below w.heap.size w w2:=(G.mono t).trans (z.mono (Nat.le_trans t (Nat.le_trans (Nat.le_of_lt x) u)));have f:=hid (Nat.le_trans t (Nat.le_trans (Nat.le_of_lt x) u));have y:=hid (C.below z (Nat.lt_of_lt_of_le x u));have l:=hid D;have d:=hid b;have F:=hid (E.below b);have g:=hid (E.fresh f.out);clear C D G z t u x Y b
 refine(aP i v _ F.out).mono ?_
 rintro e w' ⟨rfl,rfl⟩;have W:=y.cell (i:=0) rfl;go_wp2_with fail
 refine(N.out _ F.out).mono ?_
 rintro e w3 ⟨r,k,R,X,I,s,hf⟩;unfold bJ.v at I;subst I;have O:=hid (aJ.ahead d.out s);have M:=hid hf;have m:=hid (s.turned.blk l.out g.out);have j:=hid (s.fresh g.out l.lt);clear s hf W
 go_wp2_with (first
  |((with_reducible refine au 40 ?parts (cF k) ?hg ?ho ?hf ?_);(case hg|ho=>rfl);(case hf=>exact fP k))
  |((with_reducible refine aa 40 (.tmp 4) (.tmp 87) P (cF 0) (cF k) 40 m.out rfl cR (jd k) ?hgd ?ho ?hx ?hy ?_);(case hgd|ho|hx|hy=>rfl);(intro w5 L V))
  |fail)
 (try simp only[Exit.inBlock,Exit.then])
 refine bodyPost_ret (aY rfl _ _ L.range rfl underlying40 rfl cR) rfl ⟨k,R,X,rfl,O.away (V.turned (by simp)) j.out f.out,M.out⟩
theorem Gt (Φ:Int→ap→ai→Prop) (i:ap) (v:ai) (c:aG) (w:World) (h:al w i v) (H:c.kind=6) (z:∀A,al A i v→Calls prog 35 #[.pointer (some ⟨i.vb,0,none⟩), .int .i64 c.epoch, .int .i64 c.time] A fun e w'=>Step Φ A i v e w'):
  Calls prog 9 #[.pointer (some ⟨i.vb,0,none⟩),c.v] w fun e w'=>StepA Φ w i v e w':=by
 obtain⟨I,lba,b,r,p,q,S,R,Q⟩:=c;simp only at H z;subst H;have O:∀(G:Fn) (first o:Array Value) (w:World),(Instr.makeFunc G first o).run prog w= .ok (.func G first o) w:=fun _ _ _ _=>rfl
 have D:=hid h;have L:=hid z;clear h z;go_enter func9,ntmps9
 go_wp2_with (first
  |((with_reducible refine ae 36 (.tmp 1) (aG.cells ⟨6,lba,b,r,p,q,S,R,Q⟩) (some 3) ?hgd ?ho ?hd ?hx ?_);(case hgd|ho|hd|hx=>rfl);(intro Z w1 t B F x))
  |((with_reducible refine ab 40 _ eI (some 4) ?hgd ?ho ?hd ?_);(case hgd|ho|hd=>rfl);(intro N w2 u C y Y))
  |fail)
 have d:Below w.heap.size w w2:=(F.mono t).trans (y.mono (Nat.le_trans t (Nat.le_trans (Nat.le_of_lt x) u)));have g:=hid (Nat.le_trans t (Nat.le_trans (Nat.le_of_lt x) u));have a:=hid (B.below y (Nat.lt_of_lt_of_le x u));have m:=hid C;have f:=hid d;have E:=hid (D.below d);have j:=hid (D.fresh g.out);clear B C F y t u x Y d
 refine(aP i v _ E.out).mono ?_
 rintro e w' ⟨rfl,rfl⟩;have U:=a.cell (i:=0) rfl;have V:=a.cell (i:=2) rfl;have W:=a.cell (i:=3) rfl;go_wp2_with fail
 refine(L.out _ E.out).mono ?_
 rintro e w3 ⟨k,P,X,rfl,s,hf⟩;have M:=hid (aJ.ahead f.out s);have K:=hid hf;have n:=hid (s.turned.blk m.out j.out);have l:=hid (s.fresh j.out m.lt);clear s hf U V W
 go_wp2_with (first
  |((with_reducible refine au 40 ?parts (cF k) ?hg ?ho ?hf ?_);(case hg|ho=>rfl);(case hf=>exact fP k))
  |((with_reducible refine aa 40 (.tmp 4) (.tmp 87) N (cF 0) (cF k) 40 n.out rfl cR (jd k) ?hgd ?ho ?hx ?hy ?_);(case hgd|ho|hx|hy=>rfl);(intro w5 J T))
  |fail)
 (try simp only[Exit.inBlock,Exit.then])
 refine bodyPost_ret (aY rfl _ _ J.range rfl underlying40 rfl cR) rfl ⟨k,P,X,rfl,M.away (T.turned (by simp)) l.out g.out,K.out⟩
theorem Gu (Φ:Int→ap→ai→Prop) (i:ap) (v:ai) (c:aG) (w:World) (h:al w i v) (H:c.kind=7) (z:∀A,al A i v→Calls prog 36 #[.pointer (some ⟨i.vb,0,none⟩), .int .i64 c.epoch, .string c.name] A fun e w'=>Step Φ A i v e w'):
  Calls prog 9 #[.pointer (some ⟨i.vb,0,none⟩),c.v] w fun e w'=>StepA Φ w i v e w':=by
 obtain⟨I,lba,b,r,p,q,S,R,Q⟩:=c;simp only at H z;subst H;have O:∀(G:Fn) (first o:Array Value) (w:World),(Instr.makeFunc G first o).run prog w= .ok (.func G first o) w:=fun _ _ _ _=>rfl
 have D:=hid h;have L:=hid z;clear h z;go_enter func9,ntmps9
 go_wp2_with (first
  |((with_reducible refine ae 36 (.tmp 1) (aG.cells ⟨7,lba,b,r,p,q,S,R,Q⟩) (some 3) ?hgd ?ho ?hd ?hx ?_);(case hgd|ho|hd|hx=>rfl);(intro Z w1 t B F x))
  |((with_reducible refine ab 40 _ eI (some 4) ?hgd ?ho ?hd ?_);(case hgd|ho|hd=>rfl);(intro N w2 u C y Y))
  |fail)
 have d:Below w.heap.size w w2:=(F.mono t).trans (y.mono (Nat.le_trans t (Nat.le_trans (Nat.le_of_lt x) u)));have g:=hid (Nat.le_trans t (Nat.le_trans (Nat.le_of_lt x) u));have a:=hid (B.below y (Nat.lt_of_lt_of_le x u));have m:=hid C;have f:=hid d;have E:=hid (D.below d);have j:=hid (D.fresh g.out);clear B C F y t u x Y d
 refine(aP i v _ E.out).mono ?_
 rintro e w' ⟨rfl,rfl⟩;have U:=a.cell (i:=0) rfl;have V:=a.cell (i:=2) rfl;have W:=a.cell (i:=5) rfl;go_wp2_with fail
 refine(L.out _ E.out).mono ?_
 rintro e w3 ⟨k,P,X,rfl,s,hf⟩;have M:=hid (aJ.ahead f.out s);have K:=hid hf;have n:=hid (s.turned.blk m.out j.out);have l:=hid (s.fresh j.out m.lt);clear s hf U V W
 go_wp2_with (first
  |((with_reducible refine au 40 ?parts (cF k) ?hg ?ho ?hf ?_);(case hg|ho=>rfl);(case hf=>exact fP k))
  |((with_reducible refine aa 40 (.tmp 4) (.tmp 87) N (cF 0) (cF k) 40 n.out rfl cR (jd k) ?hgd ?ho ?hx ?hy ?_);(case hgd|ho|hx|hy=>rfl);(intro w5 J T))
  |fail)
 (try simp only[Exit.inBlock,Exit.then])
 refine bodyPost_ret (aY rfl _ _ J.range rfl underlying40 rfl cR) rfl ⟨k,P,X,rfl,M.away (T.turned (by simp)) l.out g.out,K.out⟩
theorem Gv (Φ:Int→ap→ai→Prop) (i:ap) (v:ai) (c:aG) (w:World) (h:al w i v) (H:c.kind=8) (z:∀A,al A i v→Calls prog 37 #[.pointer (some ⟨i.vb,0,none⟩), .string c.name] A fun e w'=>Step Φ A i v e w'):
  Calls prog 9 #[.pointer (some ⟨i.vb,0,none⟩),c.v] w fun e w'=>StepA Φ w i v e w':=by
 obtain⟨I,lba,a,r,p,q,S,R,Q⟩:=c;simp only at H z;subst H;have O:∀(G:Fn) (first o:Array Value) (w:World),(Instr.makeFunc G first o).run prog w= .ok (.func G first o) w:=fun _ _ _ _=>rfl
 have D:=hid h;have L:=hid z;clear h z;go_enter func9,ntmps9
 go_wp2_with (first
  |((with_reducible refine ae 36 (.tmp 1) (aG.cells ⟨8,lba,a,r,p,q,S,R,Q⟩) (some 3) ?hgd ?ho ?hd ?hx ?_);(case hgd|ho|hd|hx=>rfl);(intro Y Z t B F x))
  |((with_reducible refine ab 40 _ eI (some 4) ?hgd ?ho ?hd ?_);(case hgd|ho|hd=>rfl);(intro N w2 u C y X))
  |fail)
 have b:Below w.heap.size w w2:=(F.mono t).trans (y.mono (Nat.le_trans t (Nat.le_trans (Nat.le_of_lt x) u)));have f:=hid (Nat.le_trans t (Nat.le_trans (Nat.le_of_lt x) u));have l:=hid (B.below y (Nat.lt_of_lt_of_le x u));have m:=hid C;have d:=hid b;have E:=hid (D.below b);have g:=hid (D.fresh f.out);clear B C F y t u x X b
 refine(aP i v _ E.out).mono ?_
 rintro e w' ⟨rfl,rfl⟩;have U:=l.cell (i:=0) rfl;have V:=l.cell (i:=5) rfl;go_wp2_with fail
 refine(L.out _ E.out).mono ?_
 rintro e w3 ⟨k,P,W,rfl,s,hf⟩;have M:=hid (aJ.ahead d.out s);have K:=hid hf;have n:=hid (s.turned.blk m.out g.out);have j:=hid (s.fresh g.out m.lt);clear s hf U V
 go_wp2_with (first
  |((with_reducible refine au 40 ?parts (cF k) ?hg ?ho ?hf ?_);(case hg|ho=>rfl);(case hf=>exact fP k))
  |((with_reducible refine aa 40 (.tmp 4) (.tmp 87) N (cF 0) (cF k) 40 n.out rfl cR (jd k) ?hgd ?ho ?hx ?hy ?_);(case hgd|ho|hx|hy=>rfl);(intro w5 J T))
  |fail)
 (try simp only[Exit.inBlock,Exit.then])
 refine bodyPost_ret (aY rfl _ _ J.range rfl underlying40 rfl cR) rfl ⟨k,P,W,rfl,M.away (T.turned (by simp)) j.out f.out,K.out⟩
theorem Gw (Φ:Int→ap→ai→Prop) (i:ap) (v:ai) (c:aG) (w:World) (h:al w i v) (H:c.kind=9) (z:∀A,al A i v→Calls prog 38 #[.pointer (some ⟨i.vb,0,none⟩), .int .i64 c.epoch] A fun e w'=>Step Φ A i v e w'):
  Calls prog 9 #[.pointer (some ⟨i.vb,0,none⟩),c.v] w fun e w'=>StepA Φ w i v e w':=by
 obtain⟨I,lba,a,r,p,q,S,R,Q⟩:=c;simp only at H z;subst H;have O:∀(G:Fn) (first o:Array Value) (w:World),(Instr.makeFunc G first o).run prog w= .ok (.func G first o) w:=fun _ _ _ _=>rfl
 have D:=hid h;have L:=hid z;clear h z;go_enter func9,ntmps9
 go_wp2_with (first
  |((with_reducible refine ae 36 (.tmp 1) (aG.cells ⟨9,lba,a,r,p,q,S,R,Q⟩) (some 3) ?hgd ?ho ?hd ?hx ?_);(case hgd|ho|hd|hx=>rfl);(intro Y Z t B F x))
  |((with_reducible refine ab 40 _ eI (some 4) ?hgd ?ho ?hd ?_);(case hgd|ho|hd=>rfl);(intro N w2 u C y X))
  |fail)
 have b:Below w.heap.size w w2:=(F.mono t).trans (y.mono (Nat.le_trans t (Nat.le_trans (Nat.le_of_lt x) u)));have f:=hid (Nat.le_trans t (Nat.le_trans (Nat.le_of_lt x) u));have l:=hid (B.below y (Nat.lt_of_lt_of_le x u));have m:=hid C;have d:=hid b;have E:=hid (D.below b);have g:=hid (D.fresh f.out);clear B C F y t u x X b
 refine(aP i v _ E.out).mono ?_
 rintro e w' ⟨rfl,rfl⟩;have U:=l.cell (i:=0) rfl;have V:=l.cell (i:=2) rfl;go_wp2_with fail
 refine(L.out _ E.out).mono ?_
 rintro e w3 ⟨k,P,W,rfl,s,hf⟩;have M:=hid (aJ.ahead d.out s);have K:=hid hf;have n:=hid (s.turned.blk m.out g.out);have j:=hid (s.fresh g.out m.lt);clear s hf U V
 go_wp2_with (first
  |((with_reducible refine au 40 ?parts (cF k) ?hg ?ho ?hf ?_);(case hg|ho=>rfl);(case hf=>exact fP k))
  |((with_reducible refine aa 40 (.tmp 4) (.tmp 87) N (cF 0) (cF k) 40 n.out rfl cR (jd k) ?hgd ?ho ?hx ?hy ?_);(case hgd|ho|hx|hy=>rfl);(intro w5 J T))
  |fail)
 (try simp only[Exit.inBlock,Exit.then])
 refine bodyPost_ret (aY rfl _ _ J.range rfl underlying40 rfl cR) rfl ⟨k,P,W,rfl,M.away (T.turned (by simp)) j.out f.out,K.out⟩
theorem Ef (Φ:Int→ap→ai→Prop) (i:ap) (v:ai) (c:aG) (w:World) (h:al w i v) (H:c.kind=11) (z:∀A,al A i v→Calls prog 39 #[.pointer (some ⟨i.vb,0,none⟩), .int .i64 c.time] A fun e w'=>Step Φ A i v e w'):
  Calls prog 9 #[.pointer (some ⟨i.vb,0,none⟩),c.v] w fun e w'=>StepA Φ w i v e w':=by
 obtain⟨I,lba,a,r,p,q,S,R,Q⟩:=c;simp only at H z;subst H;have O:∀(G:Fn) (first o:Array Value) (w:World),(Instr.makeFunc G first o).run prog w= .ok (.func G first o) w:=fun _ _ _ _=>rfl
 have D:=hid h;have L:=hid z;clear h z;go_enter func9,ntmps9
 go_wp2_with (first
  |((with_reducible refine ae 36 (.tmp 1) (aG.cells ⟨11,lba,a,r,p,q,S,R,Q⟩) (some 3) ?hgd ?ho ?hd ?hx ?_);(case hgd|ho|hd|hx=>rfl);(intro Y Z t B F x))
  |((with_reducible refine ab 40 _ eI (some 4) ?hgd ?ho ?hd ?_);(case hgd|ho|hd=>rfl);(intro N w2 u C y X))
  |fail)
 have b:Below w.heap.size w w2:=(F.mono t).trans (y.mono (Nat.le_trans t (Nat.le_trans (Nat.le_of_lt x) u)));have f:=hid (Nat.le_trans t (Nat.le_trans (Nat.le_of_lt x) u));have l:=hid (B.below y (Nat.lt_of_lt_of_le x u));have m:=hid C;have d:=hid b;have E:=hid (D.below b);have g:=hid (D.fresh f.out);clear B C F y t u x X b
 refine(aP i v _ E.out).mono ?_
 rintro e w' ⟨rfl,rfl⟩;have U:=l.cell (i:=0) rfl;have V:=l.cell (i:=3) rfl;go_wp2_with fail
 refine(L.out _ E.out).mono ?_
 rintro e w3 ⟨k,P,W,rfl,s,hf⟩;have M:=hid (aJ.ahead d.out s);have K:=hid hf;have n:=hid (s.turned.blk m.out g.out);have j:=hid (s.fresh g.out m.lt);clear s hf U V
 go_wp2_with (first
  |((with_reducible refine au 40 ?parts (cF k) ?hg ?ho ?hf ?_);(case hg|ho=>rfl);(case hf=>exact fP k))
  |((with_reducible refine aa 40 (.tmp 4) (.tmp 87) N (cF 0) (cF k) 40 n.out rfl cR (jd k) ?hgd ?ho ?hx ?hy ?_);(case hgd|ho|hx|hy=>rfl);(intro w5 J T))
  |fail)
 (try simp only[Exit.inBlock,Exit.then])
 refine bodyPost_ret (aY rfl _ _ J.range rfl underlying40 rfl cR) rfl ⟨k,P,W,rfl,M.away (T.turned (by simp)) j.out f.out,K.out⟩
theorem Eg (i:ap) (v:ai) (c:aG) (w:World) (h:al w i v) (A:¬c.kind=1∧¬c.kind=2∧¬c.kind=3∧¬c.kind=4∧¬c.kind=5∧¬c.kind=6∧¬c.kind=7∧¬c.kind=8∧¬c.kind=9∧¬c.kind=10∧¬c.kind=11):
  Calls prog 9 #[.pointer (some ⟨i.vb,0,none⟩),c.v] w fun e w'=>e= .returned (.agg (cF 2).toArray)∧Below w.heap.size w w':=by
 obtain⟨k,lba,a,m,j,l,K,J,I⟩:=c;simp only at A;obtain⟨O,P,Q,R,S,T,U,V,W,G,H⟩:=A;have F:∀(z:Fn) (first g:Array Value) (w:World),(Instr.makeFunc z first g).run prog w= .ok (.func z first g) w:=fun _ _ _ _=>rfl
 have x:=hid h;clear h;go_enter func9,ntmps9
 go_wp2_with (first
  |((with_reducible refine ae 36 (.tmp 1) (aG.cells ⟨k,lba,a,m,j,l,K,J,I⟩) (some 3) ?hgd ?ho ?hd ?hx ?_);(case hgd|ho|hd|hx=>rfl);(intro N Y n t y p))
  |((with_reducible refine ab 40 _ eI (some 4) ?hgd ?ho ?hd ?_);(case hgd|ho|hd=>rfl);(intro E w2 o u s M))
  |fail)
 have b:Below w.heap.size w w2:=(y.mono n).trans (s.mono (Nat.le_trans n (Nat.le_trans (Nat.le_of_lt p) o)));have f:=hid (Nat.le_trans n (Nat.le_trans (Nat.le_of_lt p) o));have q:=hid (t.below s (Nat.lt_of_lt_of_le p o));have r:=hid u;have d:=hid b;have C:=hid (x.below b);have D:=hid (x.fresh f.out);clear t u y s n o p M b
 refine(aP i v _ C.out).mono ?_
 rintro e w' ⟨rfl,rfl⟩;have X:=q.cell (i:=0) rfl
 go_wp2_with (first
  |((with_reducible refine au 40 ?parts (cF 2) ?hg ?ho ?hf ?_);(case hg|ho=>rfl);(case hf=>exact fP 2))
  |((with_reducible refine aa 40 (.tmp 4) (.tmp 87) E (cF 0) (cF 2) 40 r.out rfl cR (jd 2) ?hgd ?ho ?hx ?hy ?_);(case hgd|ho|hx|hy=>rfl);(intro Z B L))
  |fail)
 (try simp only[Exit.inBlock,Exit.then])
 refine bodyPost_ret (aY rfl _ _ B.range rfl underlying40 rfl cR) rfl ⟨rfl,L.below d.out f.out⟩
end Go.Proofs.YtadooplpfhdhcaaGreat
