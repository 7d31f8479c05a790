/- Flush, of a disk that has power, and no step at which it goes (chapter 8). Flush, of a disk that has power, and no step at which it goes (chapter 8): the call. Clocks, spaces, books, indices (chapters 6, 12, 22, 23): what New makes, and how they look. -/
import Derived.Test.YtngiibgdgenidaaGreatQ8
import Derived.Test.YtngiibgdgenidaaGreatQ4
import Derived.Test.YtngiibgdgenidaaGreatQ7
import Derived.WalkSpells
import Derived.Maps.OwnSet
import Derived.Maps.OwnOps
import Derived.Maps.StringElems
import Derived.Test.YtngiibgdgenidaaGreatQ5
import Derived.Laws.BitsAllLaws
import Derived.Deep.QuietTactic
set_option linter.unusedSimpArgs false
set_option linter.unusedVariables false
set_option maxRecDepth 100000
set_option maxHeartbeats 4000000
namespace Go.Proofs.YtngiibgdgenidaaGreat
open Go Go.RowKit
def fH (bs:List ByteArray) (cs:List (Int×ByteArray)):Nat→List ByteArray
 |0=>bs
 |k+1=>(fH bs cs k).set (cs.getD k (0,ByteArray.empty)).1.toNat (cs.getD k (0,ByteArray.empty)).2
theorem dD (bs:List ByteArray) (cs:List (Int×ByteArray)):∀k,(fH bs cs k).length=bs.length
 |0=>rfl
 |k+1=>by unfold fH;rw[List.length_set,dD bs cs k]
theorem az.stored {w:World} {db:Nat} {d:am} (h:az w db d) {g c:Nat} (hv:d.bv= .slice (some ⟨g,0,none⟩) d.bs.length c) (i:Nat) (s:ByteArray):
  bg w (w.setCell ⟨g,i,none⟩ (.string s)) db d {d with bs:=d.bs.set i s}:=by
 have hr:=h.rb
 rw[hv]at hr
 obtain⟨h1,h2⟩:=hr.stored i (.string s)
 have hgb:d.bv.ownBlock=some g:=by rw[hv];rfl
 have t:ab [g] w (w.setCell ⟨g,i,none⟩ (.string s)):=ab.of_grown h2 (fun k hk=>by injection hk with hk;simp[hk])
 refine⟨⟨t.blk h.blk (by simp;intro he;exact h.n1 (by rw[hgb,he])), ?_,aB h.rc t (fun k hk hm=>by simp at hm;subst hm;exact h.n3 k hgb hk),h.n1,h.n2,h.n3⟩,t.mono (fun x hx=>by simp at hx;subst hx;exact am.mem1 hgb),fun x hx=> .inl hx⟩
 show World.ownsRow _ 0 _ 1 d.bv (d.bs.set i s).length _
 rw[hv,List.length_set,List.map_set]
 exact h1
theorem az.uncached {w w':World} {db:Nat} {d:am} (h:az w db d) (o:bH db w w') (hb:ac w' db ({d with cv:= .slice none 0 0,cs:=[]}:am).cells 119):bg w w' db d {d with cv:= .slice none 0 0,cs:=[]}:=by
 have t:ab [db] w w':=o.turned (by simp)
 refine⟨⟨hb,aB h.rb t (fun k hk hm=>h.n1 (by simp at hm;rw[hk,hm])),World.ownsRow_nil _ _ _ _,h.n1,by simp[Value.ownBlock],fun g _=>by simp[Value.ownBlock]⟩,t.mono (fun x hx=>by simp at hx;subst hx;simp[am.foot]),fun x hx=> ?_⟩
 simp only[am.foot,List.mem_cons,List.mem_append,Option.mem_toList,Option.mem_def,Value.ownBlock]at hx ⊢
 rcases hx with hx|hx|hx
 ·exact .inl (.inl hx)
 ·exact .inl (.inr (.inl hx))
 ·cases hx
theorem vX {p:Int×ByteArray}:(Tryz.prog.info? 160).map (·.size)=some (putCells p).length:=by kernel_rfl
theorem EN (w:World):Sem.run Tryz.prog (zeroValue 160) w= .ok (.agg (putCells (0,⟨#[]⟩)).toArray) w:=by kernel_rfl
theorem vY (p:Int×ByteArray):∀v∈putCells p,v.oneCell'=true:=by intro v hv;simp[putCells]at hv;rcases hv with rfl|rfl<;>rfl
theorem tJ (k:Int) (w:World):
  Calls Tryz.prog 254 #[.int .i64 k] w fun e w'=>e= .returned (.bool true)∧w=w':=by
 go_enter Tryz.func254,Tryz.ntmps254
 go_wp2_with fail
 go_ret
 exact⟨rfl,rfl⟩
def am.flushed (d:am):am:={d with bs:=fH d.bs d.cs d.cs.length,cv:= .slice none 0 0,cs:=[]}
theorem EO (db:Nat) (d:am) (w:World) (h:az w db d) (hc:d.cs.length≤4096) (hb:d.bs.length≤1024) (hin:∀(j:Nat) p,d.cs[j]?=some p→0≤p.1∧p.1<d.bs.length):
  Calls Tryz.prog 47 #[.pointer (some ⟨db,0,none⟩), .func (.func 254) #[] #[]] w fun e w'=>e= .returned (.tuple #[])∧bg w w' db d d.flushed:=by
 have HH:=Lib.hid h
 have HIN:=Lib.hid hin
 obtain⟨n,hn⟩:∃n,d.cs.length=n:=⟨_,rfl⟩
 have HN:=Lib.hid hn
 rw[hn]at hc
 obtain⟨pc,cc,hcv⟩:=pM h
 have c1:=h.blk.cell (i:=1) rfl
 rw[hcv,hn]at c1
 have HCV:=Lib.hid hcv
 clear h hcv hn hin
 go_enter Tryz.func47,Tryz.ntmps47
 go_wp2_with fail
 clear c1
 go_loopw [12] (fun i wr=>∃k:Nat,k≤n∧i= .int .i64 k∧bg w wr db d {d with bs:=fH d.bs d.cs k}) (fun i _=>n-(intOf i).toNat)
 case atStart=>exact⟨0,by omega,rfl,bg.refl HH.out⟩
 case round=>
  obtain⟨k,hk,rfl,hto⟩:=hrel
  have HT:=Lib.hid hto
  clear hto
  by_cases hlt:k<n
  ·have hlt':(k:Int)<n:=by omega
   have hk0:(0:Int)≤(k:Int):=by omega
   have hkc:k<d.cs.length:=by rw[HN.out];exact hlt
   obtain⟨g,c,hv,q0,q1⟩:=HT.out.at'.cached_at (k:=k) hkc
   obtain⟨at_,data,hpq⟩:∃a s,d.cs.getD k (0,ByteArray.empty)=(a,s):=⟨_,_,rfl⟩
   obtain⟨hi0,hi1⟩:=HIN.out k (at_,data) (by rw[←hpq];simp[List.getD,List.getElem?_eq_getElem hkc])
   obtain⟨i,rfl⟩:∃i:Nat,at_=(i:Int):=⟨at_.toNat,by simp at hi0;omega⟩
   have hpv:pc=some ⟨g,0,none⟩∧cc=c:=by
    have h1:=HCV.out
    have h2:d.cv= .slice (some ⟨g,0,none⟩) d.cs.length c:=hv
    rw[h1]at h2
    injection h2 with h3 _ h4
    exact⟨h3,h4⟩
   obtain⟨rfl,rfl⟩:=hpv
   simp only at hi0 hi1
   have hq:(d.cs.getD k (0,ByteArray.empty))=((i:Int),data):=hpq
   have q0':wr.cell? ⟨g,k*2,none⟩=some (.int .i64 (i:Int)):=by rw[q0];simp only[hq]
   have q1':wr.cell? ⟨g,k*2+1,none⟩=some (.string data):=by rw[q1];simp only[hq]
   have HR:wr.rangeAt g (k*2) (putCells ((i:Int),data)):=by
    intro j u hu
    match j,hu with
    |0,hu=>simp[putCells]at hu;subst hu;simpa using q0'
    |1,hu=>simp[putCells]at hu;subst hu;exact q1'
    |j+2,hu=>simp[putCells]at hu
   have HQ:=Lib.hid hq
   clear q0 q1 q0' q1' hpq hv hq
   go_wp2_with (first
    |((with_reducible refine ag 160 (.tmp 15) g (k*2) (putCells ((i:Int),data)) _ (some 16) HR Tryz.underlying160 rfl vX ?hg ?ho ?hds ?hx ?_);(case ho|hg|hds=>rfl);(case hx=>go_num))
    |((with_reducible refine af 160 _ EN (some 5) ?hgd ?ho ?hd ?_);(case hgd|ho|hd=>rfl);(intro b5 w5 l5 B5 e5 z5))
    |((with_reducible refine ae 160 (.tmp 5) (.tmp 16) b5 (putCells (0,⟨#[]⟩)) (putCells ((i:Int),data)) 160 B5 rfl vX (vY _) ?hgd ?ho ?hx ?hy ?_);(case hgd|ho|hx|hy=>rfl);(intro w6 B6 o6))
    |fail)
   refine(tJ _ _).mono ?_
   rintro e w' ⟨rfl,rfl⟩
   have hb6:Below wr.heap.size wr w6:=o6.below (e5.mono l5) l5
   have A6:=HT.out.at'.below hb6
   have hil:i<(fH d.bs d.cs k).length:=by rw[dD];omega
   obtain⟨gb,cb,hbv,hblk⟩:=A6.block (i:=i) hil
   have c0:=A6.blk.cell (i:=0) rfl
   have hbv':d.bv= .slice (some ⟨gb,0,none⟩) d.bs.length cb:=by have:=hbv;simp only[dD]at this;exact this
   have c0':w6.cell? ⟨db,0,none⟩=some (.slice (some ⟨gb,0,none⟩) d.bs.length cb):=by rw[←hbv'];exact c0
   have p0:=B6.cell (i:=0) rfl
   have p1:=B6.cell (i:=1) rfl
   have hfz:w6.frozen? ⟨gb,i,none⟩=false:=by
    have hr:=A6.rb
    simp only at hr
    rw[hbv]at hr
    exact hr.frozenAt i
   have hi1':(i:Int)<(d.bs.length:Int):=hi1
   have hi0':(0:Int)≤(i:Int):=by omega
   have HA6:=Lib.hid A6
   have HBV:=Lib.hid hbv'
   have HB6:=Lib.hid hb6
   clear c0 hbv hbv' A6 hb6 B6 o6 e5 B5 HR hi0 hi1 hil
   go_wp2_with fail
   refine dm 10 (by kernel_rfl) (by kernel_rfl) ?_
   simp only[List.take_succ_cons,List.take_zero,List.drop_succ_cons,List.drop_zero]
   iterate 10 still_step
   refine wpStill_nil ?_
   go_wp2_with fail
   go_roundw
   case rel=>
    refine⟨k+1,by omega,by go_num, ?_⟩
    have hA:=HA6.out.below ((Below.refl w6.heap.size w6).drew)
    have hs:=hA.stored (g:=gb) (c:=cb) (by simp only[dD];exact HBV.out) i data
    have ht:=((HT.out.below (HB6.out)).below ((Below.refl w6.heap.size w6).drew)).trans hs
    unfold fH
    rw[HQ.out]
    exact ht
   case measure=>simp[intOf];omega
  ·obtain rfl:k=n:=by omega
   have Bk:=HT.out.at'.blk
   have hlen8:1<(am.cells {d with bs:=fH d.bs d.cs k}).length:=by show 1<5;decide
   go_wp2_with (first
    |((with_reducible refine aj 115 (.tmp 34) (.const (.slice none 0 0)) db 1 (.slice none 0 0) _ 119 Bk hlen8 Dx rfl ?hgd ?ho ?hx ?hy ?_);(case hgd|ho|hx|hy=>rfl);(intro w4 B4 o4))
    |fail)
   go_end0
   refine⟨rfl, ?_⟩
   have:=HT.out.trans (HT.out.at'.uncached o4 B4)
   unfold am.flushed
   rw[HN.out]
   exact this
theorem gW (db:Nat) (d:am) (w:World) (h:az w db d) (hd:d.down=false) (hl:d.left=0) (hc:d.cs.length≤4096) (hb:d.bs.length≤1024) (hin:∀(j:Nat) p,d.cs[j]?=some p→0≤p.1∧p.1<d.bs.length):
  Calls Tryz.prog 152 #[.pointer (some ⟨db,0,none⟩)] w fun e w'=>e= .returned (.int .i64 0)∧bg w w' db d d.flushed:=by
 have HH:=Lib.hid h
 have HIN:=Lib.hid hin
 clear h hin
 go_enter Tryz.func152,Tryz.ntmps152
 go_wp2_with fail
 refine(nP db d _ HH.out).mono ?_
 rintro e w' ⟨rfl,rfl⟩
 rw[hd]
 go_wp2_with fail
 refine(qL db d _ HH.out hd hl).mono ?_
 rintro e w' ⟨rfl,rfl⟩
 go_wp2_with fail
 refine(EO db d _ HH.out hc hb HIN.out).mono ?_
 rintro e w2 ⟨rfl,ht⟩
 have HT:=Lib.hid ht
 clear ht
 go_wp2_with fail
 go_ret
 exact⟨rfl,HT.out⟩
open Go.Maps Go.WideMaps
theorem jo (t:Int) (w:World) (h0:0≤t) (h1:t≤1099511627776):
  Calls Tryz.prog 79 #[.int .i64 t] w fun e w'=>(∃cb,e= .returned (.tuple #[.pointer (some ⟨cb,0,none⟩), .int .i64 0])∧ac w' cb [.bool true, .int .i64 t] 231∧w.heap.size≤cb)∧Below w.heap.size w w':=by
 go_enter Tryz.func79,Tryz.ntmps79
 go_wp2_with fail
 refine Calls.mono (show Calls Tryz.prog 155 #[.int .i64 t] _ (fun e w'=>e= .returned (.bool true)∧w=w')from ?_) ?_
 ·go_enter Tryz.func155,Tryz.ntmps155
  go_wp2_with fail
  go_ret
  exact⟨rfl,rfl⟩
 rintro e w1 ⟨rfl,rfl⟩
 go_wp2_with (first
  |((with_reducible refine ai 231 (.tmp 8) ([.bool true, .int .i64 t]) (some 9) ?hgd ?ho ?hd ?hx ?_);(case hgd|ho|hd|hx=>rfl);(intro b2 w2 l2 B2 e2 z2))
  |fail)
 go_ret2
 exact⟨⟨b2,rfl,B2,l2⟩,e2.mono l2⟩
theorem lq (cb:Nat) (t:Int) (w:World) (h:ac w cb [.bool true, .int .i64 t] 231):
  Calls Tryz.prog 171 #[.pointer (some ⟨cb,0,none⟩)] w fun e w'=>e= .returned (.bool true)∧w=w':=by
 have c0:=h.cell (i:=0) rfl
 go_enter Tryz.func171,Tryz.ntmps171
 go_wp2_with fail
 go_ret
 exact⟨rfl,rfl⟩
theorem im (cb:Nat) (t:Int) (w:World) (h:ac w cb [.bool true, .int .i64 t] 231):
  Calls Tryz.prog 87 #[.pointer (some ⟨cb,0,none⟩)] w fun e w'=>e= .returned (.int .i64 t)∧w=w':=by
 have c1:=h.cell (i:=1) rfl
 go_enter Tryz.func87,Tryz.ntmps87
 go_wp2_with fail
 refine(lq cb t _ h).mono ?_
 rintro e w1 ⟨rfl,rfl⟩
 go_wp2_with fail
 go_ret
 exact⟨rfl,rfl⟩
def ct (g:aK) (used:Int):List Value:=[.int .i64 g.blocks, .int .i64 g.lbas, .int .i64 g.first, .int .i64 used, .bool true]
theorem tK (g:aK) (used:Int) (w:World) (hg:dx g) (h0:0≤used) (h1:used≤g.blocks-4):
  Calls Tryz.prog 260 #[g.v, .int .i64 used] w fun e w'=>(∃sb,e= .returned (.tuple #[.pointer (some ⟨sb,0,none⟩), .int .i64 0])∧ac w' sb (ct g used) 269∧w.heap.size≤sb)∧Below w.heap.size w w':=by
 have hd1:decide (used<0)=false:=decide_eq_false (by omega)
 have hu2:=hg.b1
 go_enter Tryz.func260,Tryz.ntmps260
 go_wp2_with (first
  |((with_reducible refine ai 31 (.tmp 0) (g.cells) (some 2) ?hgd ?ho ?hd ?hx ?_);(case hgd|ho|hd|hx=>rfl);(intro b1 w1 l1 B1 e1 z1))
  |((with_reducible refine ag 31 (.tmp 2) b1 0 g.cells _ (some 6) B1.range Tryz.underlying31 rfl bP ?hg ?ho ?hds ?hx ?_);(case ho|hg|hds|hx=>rfl))
  |fail)
 refine(eJ g _ hg).mono ?_
 rintro e w2 ⟨rfl,hb2⟩
 have B2:=B1.below hb2 z1
 have hw2:=(e1.mono l1).trans (hb2.mono (Nat.le_trans l1 (Nat.le_of_lt z1)))
 go_wp2_with (first
  |((with_reducible refine ag 31 (.tmp 2) b1 0 g.cells _ (some 15) B2.range Tryz.underlying31 rfl bP ?hg ?ho ?hds ?hx ?_);(case ho|hg|hds|hx=>rfl))
  |fail)
 refine(il g _ hg).mono ?_
 rintro e w3 ⟨rfl,hb3⟩
 have B3:=B2.below hb3 B2.lt
 have hw3:=hw2.trans (hb3.mono hw2.size)
 clear hb2 hb3 hw2 B1 B2 e1
 obtain⟨blocks,lbas,first⟩:=g
 have hd2:decide ((blocks-4:Int)<used)=false:=decide_eq_false (by simp only at h1;omega)
 have q0:w3.cell? ⟨b1,0,none⟩=some (.int .i64 blocks):=B3.cell (i:=0) rfl
 have q1:w3.cell? ⟨b1,1,none⟩=some (.int .i64 lbas):=B3.cell (i:=1) rfl
 have q2:w3.cell? ⟨b1,2,none⟩=some (.int .i64 first):=B3.cell (i:=2) rfl
 clear h1 hu2
 go_wp2_with (first
  |((with_reducible refine ai 269 (.tmp 21) (ct ⟨blocks,lbas,first⟩ used) (some 22) ?hgd ?ho ?hd ?hx ?_);(case hgd|ho|hd|hx=>rfl);(intro b4 w4 l4 B4 e4 z4))
  |fail)
 go_ret2
 have h9:=hw3.size
 exact⟨⟨b4,rfl,B4,Nat.le_trans h9 l4⟩,hw3.trans (e4.mono (Nat.le_trans h9 l4))⟩
theorem tM (w:World):
  Calls Tryz.prog 160 #[] w fun e w'=>(∃xb,e= .returned (.pointer (some ⟨xb,0,none⟩))∧ac w' xb [.bool true, .slice none 0 0] 263∧w.heap.size≤xb)∧Below w.heap.size w w':=by
 go_enter Tryz.func160,Tryz.ntmps160
 go_wp2_with (first
  |((with_reducible refine ai 263 (.tmp 1) ([.bool true, .slice none 0 0]) (some 2) ?hgd ?ho ?hd ?hx ?_);(case hgd|ho|hd|hx=>rfl);(intro b1 w1 l1 B1 e1 z1))
  |fail)
 go_ret
 exact⟨⟨b1,rfl,B1,l1⟩,e1.mono l1⟩
structure cd (w:World) (m1 m2 m3 n:Nat) (U L G:DataW Unit):Prop where
 u:w.ownsMap Tryz.prog 3 (plainElem Tryz.prog 3) m1 n U
 l:w.ownsMap Tryz.prog 9 (plainElem Tryz.prog 3) m2 n L
 g:w.ownsMap Tryz.prog 3 (plainElem Tryz.prog 4) m3 n G
 n1:m1≠m2
 n2:m1≠m3
 n3:m2≠m3
theorem dU {S:List Nat} {w w':World} {k:TypeId} {R:Value→Option (DataW Unit×List MemPlace)} {b n:Nat} {D:DataW Unit} (h:w.ownsMap Tryz.prog k R b n D) (t:ab S w w') (hn:b∉S):w'.ownsMap Tryz.prog k R b n D:=by
 have hlt:=h.lt
 obtain⟨es,clock,hb,F,hs,hD⟩:=h
 exact⟨es,clock,(t.block b hlt hn).trans hb,F,hs,hD⟩
theorem vZ {w:World} {k:TypeId} {R:Value→Option (DataW Unit×List MemPlace)} {b n c:Nat} {D:DataW Unit} {cs:List Value} {t:TypeId} (h:w.ownsMap Tryz.prog k R b n D) (hb:ac w c cs t):b≠c:=by
 rintro rfl
 obtain⟨es,clock,h1,_⟩:=h
 unfold ac at hb
 rw[h1]at hb
 cases hb
theorem cd.turned {S:List Nat} {w w':World} {m1 m2 m3 n:Nat} {U L G:DataW Unit} (h:cd w m1 m2 m3 n U L G) (t:ab S w w') (hn:∀x,x=m1∨x=m2∨x=m3→x∉S):cd w' m1 m2 m3 n U L G:=
 ⟨dU h.u t (hn m1 (.inl rfl)),dU h.l t (hn m2 (.inr (.inl rfl))),dU h.g t (hn m3 (.inr (.inr rfl))),h.n1,h.n2,h.n3⟩
theorem cd.below {w w':World} {m1 m2 m3 n:Nat} {U L G:DataW Unit} (h:cd w m1 m2 m3 n U L G) (hb:Below w.heap.size w w'):cd w' m1 m2 m3 n U L G:=
 h.turned (S:=[]) (ab.of_below hb (Nat.le_refl _)) (by simp)
theorem cd.ne {w:World} {m1 m2 m3 n c:Nat} {U L G:DataW Unit} {cs:List Value} {t:TypeId} (h:cd w m1 m2 m3 n U L G) (hb:ac w c cs t):∀x,x=m1∨x=m2∨x=m3→x≠c:=by
 rintro x (rfl|rfl|rfl)
 ·exact vZ h.u hb
 ·exact vZ h.l hb
 ·exact vZ h.g hb
theorem cd.lt {w:World} {m1 m2 m3 n:Nat} {U L G:DataW Unit} (h:cd w m1 m2 m3 n U L G):∀x,x=m1∨x=m2∨x=m3→x<w.heap.size:=by
 rintro x (rfl|rfl|rfl)
 ·exact h.u.lt
 ·exact h.l.lt
 ·exact h.g.lt
def bB (cb:Nat) (first epoch:Int) (m1 m2 m3:Nat):List Value:=[.pointer (some ⟨cb,0,none⟩), .int .i64 first, .int .i64 epoch, .map (some m1), .map (some m2), .map (some m3)]
theorem Dy (p:Value) (first:Int) (m1 m2 m3:Option Nat) (cb:Nat) (hp:p= .pointer (some ⟨cb,0,none⟩)):Tryz.prog.built 234 [(0,p),(1, .int .i64 first),(2, .int .i64 first),(3, .map m1),(4, .map m2),(5, .map m3)]=some [.pointer (some ⟨cb,0,none⟩), .int .i64 first, .int .i64 first, .map m1, .map m2, .map m3].toArray:=by subst hp;kernel_rfl
theorem nQ (first:Int) (w:World) (h0:0≤first) (h1:first<4294967296):
  Calls Tryz.prog 161 #[.int .i64 first] w fun e w'=>(∃bb cb m1 m2 m3,e= .returned (.tuple #[.pointer (some ⟨bb,0,none⟩), .int .i64 0])∧ac w' bb (bB cb first first m1 m2 m3) 234∧ac w' cb [.bool true, .int .i64 0] 231∧w.heap.size≤bb∧w.heap.size≤cb∧cd w' m1 m2 m3 0 (.map []) (.map []) (.map [])∧w.heap.size≤m1∧w.heap.size≤m2∧w.heap.size≤m3)∧Below w.heap.size w w':=by
 have hmm:=@run_makeMap Tryz.prog
 have hd:¬(4294967295:Int)<first:=by omega
 go_enter Tryz.func161,Tryz.ntmps161
 go_wp2_with fail
 refine(jo 0 _ (by decide) (by decide)).mono ?_
 rintro e w1 ⟨⟨cb,rfl,B1,l1⟩,hb1⟩
 have HB1:=Lib.hid B1
 have HBE:=Lib.hid hb1
 have HL:=Lib.hid l1
 clear B1 hb1 l1
 go_wp2_with (first
  |((with_reducible refine ao 234 ?parts (bB cb first first w1.heap.size (w1.alloc (.map #[] 0)).heap.size ((w1.alloc (.map #[] 0)).alloc (.map #[] 0)).heap.size) ?hg ?ho ?hf ?_);(case hg|ho=>rfl);(case hf=>exact Dy _ first _ _ _ cb rfl))
  |((with_reducible refine ai 234 (.tmp 22) (bB cb first first w1.heap.size (w1.alloc (.map #[] 0)).heap.size ((w1.alloc (.map #[] 0)).alloc (.map #[] 0)).heap.size) (some 23) ?hgd ?ho ?hd ?hx ?_);(case hgd|ho|hd|hx=>rfl);(intro b5 w5 l5 B5 e5 z5))
  |fail)
 go_ret2
 have hz:=HBE.out.size
 refine⟨⟨_,cb,w1.heap.size,w1.heap.size+1,w1.heap.size+1+1,rfl, ?_,(((HB1.out.alloc _).alloc _).alloc _).alloc _,by omega,HL.out,⟨?_, ?_, ?_,by omega,by omega,by omega⟩,by omega,by omega,by omega⟩,(((HBE.out.alloc hz _).alloc (by simp;omega) _).alloc (by simp;omega) _).alloc (by simp;omega) _⟩
 ·have:=ac.new (((w1.alloc (.map #[] 0)).alloc (.map #[] 0)).alloc (.map #[] 0)) (bB cb first first w1.heap.size (w1.heap.size+1) (w1.heap.size+1+1)) 234
  simp at this
  exact this
 ·exact(((World.ownsMap_made w1 _ _ _).alloc _).alloc _).alloc _
 ·have he:(w1.alloc (.map #[] 0)).heap.size=w1.heap.size+1:=by simp
  have:=((World.ownsMap_made (H:=Unit) (w1.alloc (.map #[] 0)) Tryz.prog 9 (plainElem Tryz.prog 3)).alloc (.map #[] 0)).alloc (Obj.cells (bB cb first first w1.heap.size (w1.heap.size+1) (w1.heap.size+1+1)).toArray 234)
  rw[he]at this
  exact this
 ·have he:((w1.alloc (.map #[] 0)).alloc (.map #[] 0)).heap.size=w1.heap.size+1+1:=by simp
  have:=(World.ownsMap_made (H:=Unit) ((w1.alloc (.map #[] 0)).alloc (.map #[] 0)) Tryz.prog 3 (plainElem Tryz.prog 4)).alloc (Obj.cells (bB cb first first w1.heap.size (w1.heap.size+1) (w1.heap.size+1+1)).toArray 234)
  rw[he]at this
  exact this
theorem gP (bb cb:Nat) (first epoch:Int) (m1 m2 m3:Nat) (w:World) (h:ac w bb (bB cb first epoch m1 m2 m3) 234):
  Calls Tryz.prog 156 #[.pointer (some ⟨bb,0,none⟩)] w fun e w'=>e= .returned (.bool true)∧w=w':=by
 have c0:=h.cell (i:=0) rfl
 go_enter Tryz.func156,Tryz.ntmps156
 go_wp2_with fail
 go_ret
 exact⟨rfl,rfl⟩
theorem eK (bb cb:Nat) (first epoch:Int) (m1 m2 m3:Nat) (w:World) (h:ac w bb (bB cb first epoch m1 m2 m3) 234):
  Calls Tryz.prog 80 #[.pointer (some ⟨bb,0,none⟩)] w fun e w'=>e= .returned (.int .i64 epoch)∧w=w':=by
 have c2:=h.cell (i:=2) rfl
 go_enter Tryz.func80,Tryz.ntmps80
 go_wp2_with fail
 refine(gP bb cb first epoch m1 m2 m3 _ h).mono ?_
 rintro e w1 ⟨rfl,rfl⟩
 go_wp2_with fail
 go_ret
 exact⟨rfl,rfl⟩
theorem nR (bb cb:Nat) (first epoch:Int) (m1 m2 m3:Nat) (w:World) (h:ac w bb (bB cb first epoch m1 m2 m3) 234) (t:Int) (hc:ac w cb [.bool true, .int .i64 t] 231):
  Calls Tryz.prog 164 #[.pointer (some ⟨bb,0,none⟩)] w fun e w'=>e= .returned (.int .i64 t)∧w=w':=by
 have c0:=h.cell (i:=0) rfl
 go_enter Tryz.func164,Tryz.ntmps164
 go_wp2_with fail
 refine(gP bb cb first epoch m1 m2 m3 _ h).mono ?_
 rintro e w1 ⟨rfl,rfl⟩
 go_wp2_with fail
 refine(im cb t _ hc).mono ?_
 rintro e w1 ⟨rfl,rfl⟩
 go_wp2_with fail
 go_ret
 exact⟨rfl,rfl⟩
theorem jd (sb:Nat) (g:aK) (used:Int) (w:World) (h:ac w sb (ct g used) 269) (hg:dx g):
  Calls Tryz.prog 193 #[.pointer (some ⟨sb,0,none⟩)] w fun e w'=>e= .returned (.bool true)∧w=w':=by
 have c0:=h.cell (i:=0) rfl
 have c4:=h.cell (i:=4) rfl
 have hb:0<g.blocks:=by have:=hg.b0;omega
 go_enter Tryz.func193,Tryz.ntmps193
 go_wp2_with fail
 go_ret
 exact⟨rfl,rfl⟩
theorem rM (sb:Nat) (g:aK) (used:Int) (w:World) (h:ac w sb (ct g used) 269) (hg:dx g):
  Calls Tryz.prog 174 #[.pointer (some ⟨sb,0,none⟩)] w fun e w'=>e= .returned (.int .i64 used)∧w=w':=by
 have c3:=h.cell (i:=3) rfl
 go_enter Tryz.func174,Tryz.ntmps174
 go_wp2_with fail
 refine(jd sb g used _ h hg).mono ?_
 rintro e w1 ⟨rfl,rfl⟩
 go_wp2_with fail
 go_ret
 exact⟨rfl,rfl⟩
structure fJ (w:World) (jb p3 p4 p5:Nat) (i:Int) (s:ByteArray):Prop where
 j:ac w p3 [.pointer (some ⟨jb,0,none⟩)] 152
 i:ac w p4 [.int .i64 i] 3
 s:ac w p5 [.string s] 9
theorem fJ.below {w w':World} {jb p3 p4 p5:Nat} {i:Int} {s:ByteArray} (h:fJ w jb p3 p4 p5 i s) (hb:Below w.heap.size w w'):fJ w' jb p3 p4 p5 i s:=
 ⟨h.j.below hb h.j.lt,h.i.below hb h.i.lt,h.s.below hb h.s.lt⟩
theorem fJ.turned {S:List Nat} {w w':World} {jb p3 p4 p5:Nat} {i:Int} {s:ByteArray} (h:fJ w jb p3 p4 p5 i s) (t:ab S w w') (h3:p3∉S) (h4:p4∉S) (h5:p5∉S):fJ w' jb p3 p4 p5 i s:=
 ⟨t.blk h.j h3,t.blk h.i h4,t.blk h.s h5⟩
theorem gX (jb:Nat) (i:Int) (s:ByteArray) (w:World):
  Calls Tryz.prog 149 #[.pointer (some ⟨jb,0,none⟩), .int .i64 i, .string s] w fun e w'=>(∃p3 p4 p5,e= .returned (.func (.func 250) #[] #[.pointer (some ⟨p3,0,none⟩), .pointer (some ⟨p4,0,none⟩), .pointer (some ⟨p5,0,none⟩)])∧fJ w' jb p3 p4 p5 i s∧w.heap.size≤p3∧w.heap.size≤p4∧w.heap.size≤p5)∧Below w.heap.size w w':=by
 have hmf:∀(fn:Fn) (first cap:Array Value) (w:World),(Instr.makeFunc fn first cap).run Tryz.prog w= .ok (.func fn first cap) w:=fun _ _ _ _=>rfl
 go_enter Tryz.func149,Tryz.ntmps149
 go_wp2_with (first
  |((with_reducible refine aw 152 (.tmp 0) (.pointer (some ⟨jb,0,none⟩)) rfl (some 3) ?hgd ?ho ?hd ?hx ?_);(case hgd|ho|hd|hx=>rfl);(intro b1 w1 l1 B1 e1 z1))
  |((with_reducible refine aw 3 (.tmp 1) (.int .i64 i) rfl (some 4) ?hgd ?ho ?hd ?hx ?_);(case hgd|ho|hd|hx=>rfl);(intro b2 w2 l2 B2 e2 z2))
  |((with_reducible refine aw 9 (.tmp 2) (.string s) rfl (some 5) ?hgd ?ho ?hd ?hx ?_);(case hgd|ho|hd|hx=>rfl);(intro b3 w3 l3 B3 e3 z3))
  |fail)
 go_ret
 have g1:w.heap.size≤b2:=Nat.le_trans l1 (Nat.le_of_lt (Nat.lt_of_lt_of_le z1 l2))
 have g2:w.heap.size≤b3:=Nat.le_trans g1 (Nat.le_of_lt (Nat.lt_of_lt_of_le z2 l3))
 exact⟨⟨b1,b2,b3,rfl,⟨(B1.below e2 (Nat.lt_of_lt_of_le z1 l2)).below e3 (by omega),B2.below e3 (Nat.lt_of_lt_of_le z2 l3),B3⟩,l1,g1,g2⟩,((e1.mono l1).trans (e2.mono g1)).trans (e3.mono g2)⟩
theorem gu (jb db p3 p4 p5:Nat) (d:am) (i:Int) (s:ByteArray) (w:World) (h:az w db d) (hj:w.cell? ⟨jb,1,none⟩=some (.pointer (some ⟨db,0,none⟩))) (bE:fJ w jb p3 p4 p5 i s)
  (hd:d.down=false) (hl:d.left=0) (hc:d.cs.length<4096) (hi:0≤i) (hi2:i<d.bs.length) (hs:s.size=4096):
  Calls Tryz.prog 250 #[.pointer (some ⟨p3,0,none⟩), .pointer (some ⟨p4,0,none⟩), .pointer (some ⟨p5,0,none⟩)] w fun e w'=>e= .returned (.int .i64 0)∧∃cv',bg w w' db d {d with cv:=cv',cs:=d.cs++[(i,s)]}:=by
 have c3:=bE.j.cell (i:=0) rfl
 have c4:=bE.i.cell (i:=0) rfl
 have c5:=bE.s.cell (i:=0) rfl
 have HH:=Lib.hid h
 have HI:=Lib.hid (And.intro hi hi2)
 have HS:=Lib.hid hs
 have HC:=Lib.hid hc
 clear h bE hi hi2 hs hc
 go_enter Tryz.func250,Tryz.ntmps250
 go_wp2_with fail
 refine dm 6 (by kernel_rfl) (by kernel_rfl) ?_
 simp only[List.take_succ_cons,List.take_zero,List.drop_succ_cons,List.drop_zero]
 iterate 6 still_step
 refine wpStill_nil ?_
 go_wp2_with fail
 have hA:=HH.out.below ((Below.refl w.heap.size w).drew)
 refine(yA db d _ hA hd hl HC.out i s HI.out.1 HI.out.2 HS.out).mono ?_
 rintro e w2 ⟨rfl,cv',ht⟩
 have HT:=Lib.hid (bg.ahead ((Below.refl w.heap.size w).drew) ht)
 clear ht hA
 go_wp2_with fail
 go_ret
 exact⟨rfl,cv',HT.out⟩
theorem wH (jb db g c p3 p4 p5:Nat) (t:TypeId) (d:am) (i:Int) (s:ByteArray) (w:World) (h:az w db d) (hrow:ac w g [.func (.func 152) #[.pointer (some ⟨db,0,none⟩)] #[], .func (.func 250) #[] #[.pointer (some ⟨p3,0,none⟩), .pointer (some ⟨p4,0,none⟩), .pointer (some ⟨p5,0,none⟩)], .func (.func 152) #[.pointer (some ⟨db,0,none⟩)] #[]] t) (hj:w.cell? ⟨jb,1,none⟩=some (.pointer (some ⟨db,0,none⟩))) (hjl:jb<w.heap.size) (bE:fJ w jb p3 p4 p5 i s)
  (hn:∀x,x=g∨x=jb∨x=p3∨x=p4∨x=p5→x∉d.foot db)
  (hd:d.down=false) (hl:d.left=0) (hc:d.cs.length<4096) (hb:d.bs.length≤1024) (hin:∀(j:Nat) p,d.cs[j]?=some p→0≤p.1∧p.1<d.bs.length) (hi:0≤i) (hi2:i<d.bs.length) (hs:s.size=4096):
  Calls Tryz.prog 148 #[.pointer (some ⟨jb,0,none⟩), .slice (some ⟨g,0,none⟩) 3 c] w fun e w'=>e= .returned (.int .i64 0)∧∃d',d'=(({d.flushed with cs:=[(i,s)]}:am)).flushed∧bg w w' db d d':=by
 have HH:=Lib.hid h
 have HR:=Lib.hid hrow
 have HJ:=Lib.hid hj
 have HST:=Lib.hid bE
 have HN:=Lib.hid hn
 have HIN:=Lib.hid hin
 have HI:=Lib.hid (And.intro hi hi2)
 have HS:=Lib.hid hs
 have HC:=Lib.hid hc
 have HJL:=Lib.hid hjl
 have HD:=Lib.hid hd
 have HLF:=Lib.hid hl
 clear hd hl
 clear h hrow hj bE hn hin hi hi2 hs hc hjl
 go_enter Tryz.func148,Tryz.ntmps148
 go_wp2_with fail
 go_loopw [10] (fun v wr=>∃(k:Nat) (d':am),k≤3∧v= .int .i64 k∧((k=0→d'=d)∧(k=1→d'=d.flushed)∧(k=2→(∃cv,d'={d.flushed with cv:=cv,cs:=[(i,s)]}))∧(k=3→d'=(({d.flushed with cs:=[(i,s)]}:am)).flushed))∧bg w wr db d d') (fun v _=>3-(intOf v).toNat)
 case atStart=>exact⟨0,d,by omega,rfl,⟨fun _=>rfl,fun h=>(by cases h),fun h=>(by cases h),fun h=>(by cases h)⟩,bg.refl HH.out⟩
 case round=>
  obtain⟨k,d',hk,rfl,hstage,hto⟩:=hrel
  have HT:=Lib.hid hto
  have HSG:=Lib.hid hstage
  clear hto hstage
  have hr:=HT.out.turned.blk HR.out (HN.out g (by simp))
  have HRr:=Lib.hid hr
  have HJr:=Lib.hid (show wr.cell? ⟨jb,1,none⟩=some (.pointer (some ⟨db,0,none⟩)) by rw[HT.out.turned.cell HJL.out (HN.out jb (by simp))];exact HJ.out)
  have HSTr:=Lib.hid (HST.out.turned HT.out.turned (HN.out p3 (by simp)) (HN.out p4 (by simp)) (HN.out p5 (by simp)))
  clear hr
  match k,hk with
  |0,hk=>
   have ck:=HRr.out.cell (i:=0) rfl
   go_wp2_with fail
   obtain rfl:d'=d:=HSG.out.1 (by trivial)
   refine(gW db d' _ HT.out.at' HD.out HLF.out (Nat.le_of_lt HC.out) hb HIN.out).mono ?_
   rintro e w2 ⟨rfl,ht⟩
   have HT2:=Lib.hid ht
   clear ht
   go_wp2_with fail
   go_roundw
   case rel=>exact⟨1,_,by omega,rfl,⟨fun h=>(by cases h),fun _=>rfl,fun h=>(by cases h),fun h=>(by cases h)⟩,HT.out.trans HT2.out⟩
   case measure=>simp[intOf]
  |1,hk=>
   have ck:=HRr.out.cell (i:=1) rfl
   go_wp2_with fail
   obtain rfl:d'=d.flushed:=HSG.out.2.1 (by trivial)
   refine(gu jb db p3 p4 p5 d.flushed i s _ HT.out.at' HJr.out HSTr.out HD.out HLF.out (by show 0<4096;decide) HI.out.1 (by show i<((fH d.bs d.cs d.cs.length).length:Int);rw[dD];exact HI.out.2) HS.out).mono ?_
   rintro e w2 ⟨rfl,cv',ht⟩
   have HT2:=Lib.hid ht
   clear ht
   go_wp2_with fail
   go_roundw
   case rel=>exact⟨2,_,by omega,rfl,⟨fun h=>(by cases h),fun h=>(by cases h),fun _=>⟨cv',rfl⟩,fun h=>(by cases h)⟩,HT.out.trans HT2.out⟩
   case measure=>simp[intOf]
  |2,hk=>
   have ck:=HRr.out.cell (i:=2) rfl
   go_wp2_with fail
   obtain⟨cv,rfl⟩:=HSG.out.2.2.1 (by trivial)
   refine(gW db _ _ HT.out.at' HD.out HLF.out (by show 1≤4096;decide) (by show(fH d.bs d.cs d.cs.length).length≤1024;rw[dD];exact hb) (by
    intro j p hp
    match j,hp with
    |0,hp=>simp at hp;subst hp;exact⟨HI.out.1,by show i<((fH d.bs d.cs d.cs.length).length:Int);rw[dD];exact HI.out.2⟩
    |j+1,hp=>simp at hp)).mono ?_
   rintro e w2 ⟨rfl,ht⟩
   have HT2:=Lib.hid ht
   clear ht
   go_wp2_with fail
   go_roundw
   case rel=>exact⟨3,_,by omega,rfl,⟨fun h=>(by cases h),fun h=>(by cases h),fun h=>(by cases h),fun _=>rfl⟩,HT.out.trans HT2.out⟩
   case measure=>simp[intOf]
  |3,hk=>
   go_wp2_with fail
   go_ret
   have he:=HSG.out.2.2.2 (by trivial)
   subst he
   exact⟨rfl,HT.out⟩
theorem wI (jb db g c p3 p4 p5:Nat) (t:TypeId) (d:am) (i:Int) (s:ByteArray) (w:World) (h:az w db d) (hrow:ac w g [.func (.func 250) #[] #[.pointer (some ⟨p3,0,none⟩), .pointer (some ⟨p4,0,none⟩), .pointer (some ⟨p5,0,none⟩)], .func (.func 152) #[.pointer (some ⟨db,0,none⟩)] #[]] t) (hj:w.cell? ⟨jb,1,none⟩=some (.pointer (some ⟨db,0,none⟩))) (hjl:jb<w.heap.size) (bE:fJ w jb p3 p4 p5 i s)
  (hn:∀x,x=g∨x=jb∨x=p3∨x=p4∨x=p5→x∉d.foot db)
  (hd:d.down=false) (hl:d.left=0) (hc:d.cs.length<4096) (hb:d.bs.length≤1024) (hin:∀(j:Nat) p,d.cs[j]?=some p→0≤p.1∧p.1<d.bs.length) (hi:0≤i) (hi2:i<d.bs.length) (hs:s.size=4096):
  Calls Tryz.prog 148 #[.pointer (some ⟨jb,0,none⟩), .slice (some ⟨g,0,none⟩) 2 c] w fun e w'=>e= .returned (.int .i64 0)∧∃d',d'=(({d with cs:=d.cs++[(i,s)]}:am)).flushed∧bg w w' db d d':=by
 have HH:=Lib.hid h
 have HR:=Lib.hid hrow
 have HJ:=Lib.hid hj
 have HST:=Lib.hid bE
 have HN:=Lib.hid hn
 have HIN:=Lib.hid hin
 have HI:=Lib.hid (And.intro hi hi2)
 have HS:=Lib.hid hs
 have HC:=Lib.hid hc
 have HJL:=Lib.hid hjl
 have HD:=Lib.hid hd
 have HLF:=Lib.hid hl
 clear hd hl
 clear h hrow hj bE hn hin hi hi2 hs hc hjl
 go_enter Tryz.func148,Tryz.ntmps148
 go_wp2_with fail
 go_loopw [10] (fun v wr=>∃(k:Nat) (d':am),k≤2∧v= .int .i64 k∧((k=0→d'=d)∧(k=1→(∃cv,d'={d with cv:=cv,cs:=d.cs++[(i,s)]}))∧(k=2→d'=(({d with cs:=d.cs++[(i,s)]}:am)).flushed))∧bg w wr db d d') (fun v _=>2-(intOf v).toNat)
 case atStart=>exact⟨0,d,by omega,rfl,⟨fun _=>rfl,fun h=>(by cases h),fun h=>(by cases h)⟩,bg.refl HH.out⟩
 case round=>
  obtain⟨k,d',hk,rfl,hstage,hto⟩:=hrel
  have HT:=Lib.hid hto
  have HSG:=Lib.hid hstage
  clear hto hstage
  have hr:=HT.out.turned.blk HR.out (HN.out g (by simp))
  have HRr:=Lib.hid hr
  have HJr:=Lib.hid (show wr.cell? ⟨jb,1,none⟩=some (.pointer (some ⟨db,0,none⟩)) by rw[HT.out.turned.cell HJL.out (HN.out jb (by simp))];exact HJ.out)
  have HSTr:=Lib.hid (HST.out.turned HT.out.turned (HN.out p3 (by simp)) (HN.out p4 (by simp)) (HN.out p5 (by simp)))
  clear hr
  match k,hk with
  |0,hk=>
   have ck:=HRr.out.cell (i:=0) rfl
   go_wp2_with fail
   obtain rfl:d'=d:=HSG.out.1 (by trivial)
   refine(gu jb db p3 p4 p5 d' i s _ HT.out.at' HJr.out HSTr.out HD.out HLF.out HC.out HI.out.1 HI.out.2 HS.out).mono ?_
   rintro e w2 ⟨rfl,cv',ht⟩
   have HT2:=Lib.hid ht
   clear ht
   go_wp2_with fail
   go_roundw
   case rel=>exact⟨1,_,by omega,rfl,⟨fun h=>(by cases h),fun _=>⟨cv',rfl⟩,fun h=>(by cases h)⟩,HT.out.trans HT2.out⟩
   case measure=>simp[intOf]
  |1,hk=>
   have ck:=HRr.out.cell (i:=1) rfl
   go_wp2_with fail
   obtain⟨cv,rfl⟩:=HSG.out.2.1 (by trivial)
   refine(gW db _ _ HT.out.at' HD.out HLF.out (by show(d.cs++[(i,s)]).length≤4096;rw[List.length_append];exact HC.out) hb (by
    intro j p hp
    have hp':(d.cs++[(i,s)])[j]?=some p:=hp
    by_cases hj:j<d.cs.length
    ·rw[List.getElem?_append_left hj]at hp';exact HIN.out j p hp'
    ·rw[List.getElem?_append_right (by omega)]at hp'
     obtain⟨h1,h2⟩:=List.getElem?_eq_some_iff.1 hp'
     simp at h2
     subst h2
     exact HI.out)).mono ?_
   rintro e w2 ⟨rfl,ht⟩
   have HT2:=Lib.hid ht
   clear ht
   go_wp2_with fail
   go_roundw
   case rel=>exact⟨2,_,by omega,rfl,⟨fun h=>(by cases h),fun h=>(by cases h),fun _=>rfl⟩,HT.out.trans HT2.out⟩
   case measure=>simp[intOf]
  |2,hk=>
   go_wp2_with fail
   go_ret
   have he:=HSG.out.2.2 (by trivial)
   subst he
   exact⟨rfl,HT.out⟩
def fV (g:Nat→UInt8):Nat→UInt8
 |0=>0
 |k+1=>fV g k|||g k
theorem Dz (a b:UInt8):a|||b=0↔a=0∧b=0:=by
 constructor
 ·intro h
  have h1:=congrArg UInt8.toNat h
  rw[UInt8.toNat_or]at h1
  have h2:a.toNat=0∧b.toNat=0:=by simpa using h1
  exact⟨UInt8.toNat_inj.1 (by simpa using h2.1),UInt8.toNat_inj.1 (by simpa using h2.2)⟩
 ·rintro⟨rfl,rfl⟩;rfl
theorem lJ (g:Nat→UInt8):∀n,fV g n=0↔∀k,k<n→g k=0
 |0=>by simp[fV]
 |n+1=>by
  unfold fV
  rw[Dz,lJ g n]
  exact⟨fun⟨h1,h2⟩ k hk=>by
   rcases Nat.lt_succ_iff_lt_or_eq.1 hk with h|rfl
   ·exact h1 k h
   ·exact h2,fun h=>⟨fun k hk=>h k (by omega),h n (by omega)⟩⟩
theorem pq (b:UInt8) (w:World):
  Calls Tryz.prog 353 #[.int .u8 ((b.toNat:Nat):Int)] w fun e w'=>e= .returned (.int .i64 (if b=0 then 1 else 0))∧w=w':=by
 have hlt:=b.toNat_lt
 by_cases h:b=0
 ·subst h
  rw[if_pos rfl]
  go_enter Tryz.func353,Tryz.ntmps353
  go_wp2_with fail
  go_ret
  exact⟨rfl,rfl⟩
 ·rw[if_neg h]
  obtain⟨m,hm⟩:∃m:Nat,b.toNat=m+1:=⟨b.toNat-1,by
   have:b.toNat≠0:=fun h0=>h (UInt8.toNat_inj.1 (by simpa using h0))
   omega⟩
  rw[hm]
  go_enter Tryz.func353,Tryz.ntmps353
  go_wp2_with fail
  go_ret
  refine⟨?_,rfl⟩
  have hz:(m:Int)/256=0:=by omega
  show Ending.returned (.int .i64 (bits BinOp.and IntKind.i64 ((m:Int)/256) 1))= _
  rw[hz]
  rfl
theorem wJ (n:Nat) (p0:Value) (g:Nat→UInt8) (I:World→Prop) (w:World) (hI:I w) (hn:n≤1048576)
  (hF:∀(k:Nat) (wx:World),k<n→I wx→Calls Tryz.prog 402 #[.int .i64 (k:Int),p0] wx fun e w'=>e= .returned (.int .u8 (((g k).toNat:Nat):Int))∧I w'):
  Calls Tryz.prog 354 #[.int .i64 n, .func (.func 402) #[] #[p0]] w fun e w'=>e= .returned (.int .u8 (((fV g n).toNat:Nat):Int))∧I w':=by
 have HF:=Lib.hid hF
 clear hF
 go_enter Tryz.func354,Tryz.ntmps354
 go_wp2_with fail
 go_loopw [5,8] (fun a i wr=>∃k:Nat,k≤n∧a= .int .u8 (((fV g k).toNat:Nat):Int)∧i= .int .i64 k∧I wr) (fun _ i _=>n-(intOf i).toNat)
 case atStart=>exact⟨0,by omega,rfl,rfl,hI⟩
 case round=>
  obtain⟨k,hk,rfl,rfl,hIk⟩:=hrel
  by_cases hlt:k<n
  ·have hlt':(k:Int)<n:=by omega
   go_wp2_with fail
   refine(HF.out k _ hlt hIk).mono ?_
   rintro e w2 ⟨rfl,hI2⟩
   have h1:=(fV g k).toNat_lt
   have h2:=(g k).toNat_lt
   have hor:=u8_or_nat (fV g k).toNat (g k).toNat (by simpa using h1) (by simpa using h2)
   have HOR:=Lib.hid hor
   clear hor
   go_wp2_with fail
   go_roundw
   case rel=>exact⟨k+1,by omega,by rw[HOR.out,show fV g (k+1)=fV g k|||g k from rfl,UInt8.toNat_or],by go_num,hI2⟩
   case measure=>simp[intOf];omega
  ·obtain rfl:k=n:=by omega
   go_wp2_with fail
   go_ret
   exact⟨rfl,hIk⟩
theorem wK (n:Nat) (p0 p1:Value) (g:Nat→UInt8) (I:World→Prop) (w:World) (hI:I w) (hn:n≤1048576)
  (hF:∀(k:Nat) (wx:World),k<n→I wx→Calls Tryz.prog 355 #[.int .i64 (k:Int),p0,p1] wx fun e w'=>e= .returned (.int .u8 (((g k).toNat:Nat):Int))∧I w'):
  Calls Tryz.prog 354 #[.int .i64 n, .func (.func 355) #[] #[p0,p1]] w fun e w'=>e= .returned (.int .u8 (((fV g n).toNat:Nat):Int))∧I w':=by
 have HF:=Lib.hid hF
 clear hF
 go_enter Tryz.func354,Tryz.ntmps354
 go_wp2_with fail
 go_loopw [5,8] (fun a i wr=>∃k:Nat,k≤n∧a= .int .u8 (((fV g k).toNat:Nat):Int)∧i= .int .i64 k∧I wr) (fun _ i _=>n-(intOf i).toNat)
 case atStart=>exact⟨0,by omega,rfl,rfl,hI⟩
 case round=>
  obtain⟨k,hk,rfl,rfl,hIk⟩:=hrel
  by_cases hlt:k<n
  ·have hlt':(k:Int)<n:=by omega
   go_wp2_with fail
   refine(HF.out k _ hlt hIk).mono ?_
   rintro e w2 ⟨rfl,hI2⟩
   have h1:=(fV g k).toNat_lt
   have h2:=(g k).toNat_lt
   have hor:=u8_or_nat (fV g k).toNat (g k).toNat (by simpa using h1) (by simpa using h2)
   have HOR:=Lib.hid hor
   clear hor
   go_wp2_with fail
   go_roundw
   case rel=>exact⟨k+1,by omega,by rw[HOR.out,show fV g (k+1)=fV g k|||g k from rfl,UInt8.toNat_or],by go_num,hI2⟩
   case measure=>simp[intOf];omega
  ·obtain rfl:k=n:=by omega
   go_wp2_with fail
   go_ret
   exact⟨rfl,hIk⟩
theorem DC (s:ByteArray) (b1:Nat) (k:Nat) (hk:k<s.size) (w:World) (hb:ac w b1 [.string s] 9):
  Calls Tryz.prog 402 #[.int .i64 (k:Int), .pointer (some ⟨b1,0,none⟩)] w fun e w'=>e= .returned (.int .u8 (((s.data.toList.getD k 0).toNat:Nat):Int))∧w=w':=by
 have c0:=hb.cell (i:=0) rfl
 have h0:(0:Int)≤(k:Int):=by omega
 have h1:(k:Int)<s.size:=by omega
 go_enter Tryz.func402,Tryz.ntmps402
 go_wp2_with fail
 go_ret
 refine⟨?_,rfl⟩
 have hg:s.data.toList.getD k 0=s[k]:=by
  have hk2:k<s.data.toList.length:=hk
  rw[List.getD,List.getElem?_eq_getElem hk2]
  rfl
 rw[hg]
 rfl
theorem DD (a s:ByteArray) (b1 b2:Nat) (k:Nat) (hk:k<a.size) (hk2:k<s.size) (w:World) (ha:ac w b1 [.string a] 9) (hb:ac w b2 [.string s] 9):
  Calls Tryz.prog 355 #[.int .i64 (k:Int), .pointer (some ⟨b1,0,none⟩), .pointer (some ⟨b2,0,none⟩)] w fun e w'=>e= .returned (.int .u8 (((a.data.toList.getD k 0^^^s.data.toList.getD k 0).toNat:Nat):Int))∧w'=w.drew:=by
 have c0:=ha.cell (i:=0) rfl
 have c1:=hb.cell (i:=0) rfl
 have h0:(0:Int)≤(k:Int):=by omega
 have h1:(k:Int)<a.size:=by omega
 have h2:(k:Int)<s.size:=by omega
 have hga:a.data.toList.getD k 0=a[k]:=by
  have hk2:k<a.data.toList.length:=hk
  rw[List.getD,List.getElem?_eq_getElem hk2]
  rfl
 have hgs:s.data.toList.getD k 0=s[k]:=by
  have hk2:k<s.data.toList.length:=hk2
  rw[List.getD,List.getElem?_eq_getElem hk2]
  rfl
 have hf:Hid (bits BinOp.xor IntKind.u8 ((a[k].toNat:Nat):Int) ((s[k].toNat:Nat):Int)=(((a[k]^^^s[k]).toNat:Nat):Int)):=by
  show _= _
  have h1:=a[k].toNat_lt
  have h2:=s[k].toNat_lt
  rw[u8_xor_nat _ _ (by simpa using h1) (by simpa using h2)];simp
 go_enter Tryz.func355,Tryz.ntmps355
 go_wp2_with fail
 refine ez (by kernel_rfl) (by kernel_rfl) ?_
 iterate 8 still_step
 refine wpStill_nil ?_
 go_wp2_with fail
 go_ret
 refine⟨?_,rfl⟩
 rw[hga,hgs,←hf.out]
 rfl
theorem EP (s:ByteArray) (w:World) (hs:s.size≤1048576):
  Calls Tryz.prog 394 #[.string s] w fun e w'=>∃q:Int,e= .returned (.int .i64 q)∧(q=0↔∀k,k<s.size→s.data.toList.getD k 0=0)∧(q=0∨q=1)∧Below w.heap.size w w':=by
 have hmf:∀(fn:Fn) (first cap:Array Value) (w:World),(Instr.makeFunc fn first cap).run Tryz.prog w= .ok (.func fn first cap) w:=fun _ _ _ _=>rfl
 go_enter Tryz.func394,Tryz.ntmps394
 go_wp2_with (first
  |((with_reducible refine aw 9 (.tmp 0) (.string s) rfl (some 1) ?hgd ?ho ?hd ?hx ?_);(case hgd|ho|hd|hx=>rfl);(intro b1 w1 l1 B1 e1 z1);(have c0:=B1.cell (i:=0) rfl))
  |fail)
 obtain⟨g,hg⟩:∃g:Nat→UInt8,g=fun k=>s.data.toList.getD k 0:=⟨_,rfl⟩
 have hgk:∀k,s.data.toList.getD k 0=g k:=fun k=>by rw[hg]
 have hor:=lJ g s.size
 have HG:=Lib.hid hgk
 have HOR:=Lib.hid hor
 clear hor hgk hg
 refine(wJ s.size (.pointer (some ⟨b1,0,none⟩)) g (fun wx=>Below w.heap.size w wx∧ac wx b1 [.string s] 9) _ ⟨e1.mono l1,B1⟩ hs (fun k wx hk hI=>(DC s b1 k hk wx hI.2).mono (by rintro e w' ⟨rfl,rfl⟩;rw[HG.out];exact⟨rfl,hI⟩))).mono ?_
 rintro e w2 ⟨rfl,hb2,_⟩
 go_wp2_with fail
 refine(pq _ _).mono ?_
 rintro e w' ⟨rfl,rfl⟩
 by_cases h:fV g s.size=0
 ·rw[if_pos h]
  have HO:=Lib.hid (show ∀k,k<s.size→s.data.toList.getD k 0=0 from fun k hk=>by rw[HG.out];exact HOR.out.1 h k hk)
  have HB:=Lib.hid hb2
  clear h hb2
  go_wp2_with fail
  go_ret
  exact⟨0,rfl,⟨fun _=>HO.out,fun _=>rfl⟩, .inl rfl,HB.out⟩
 ·rw[if_neg h]
  have HO:=Lib.hid (show¬∀k,k<s.size→s.data.toList.getD k 0=0 from fun hh=>h (HOR.out.2 (fun k hk=>by rw[←HG.out];exact hh k hk)))
  have HB:=Lib.hid hb2
  clear h hb2
  go_wp2_with fail
  go_ret
  exact⟨1,rfl,⟨fun hh=>(by cases hh),fun hh=>absurd hh HO.out⟩, .inr rfl,HB.out⟩
theorem qM (a b:UInt8):a^^^b=0↔a=b:=by
 constructor
 ·intro h
  have h1:=congrArg (·^^^b) h
  simpa[UInt8.xor_assoc]using h1
 ·rintro rfl;exact UInt8.toNat_inj.1 (by rw[UInt8.toNat_xor];simp)
theorem DF {a b:List UInt8} (hl:a.length=b.length):(∀k,k<a.length→a.getD k 0^^^b.getD k 0=0)↔a=b:=by
 constructor
 ·intro h
  refine List.ext_getElem hl (fun k h1 h2=> ?_)
  have:=(qM _ _).1 (h k h1)
  simpa[List.getD,List.getElem?_eq_getElem h1,List.getElem?_eq_getElem h2]using this
 ·rintro rfl k _;exact(qM _ _).2 rfl
theorem EQ (a s:ByteArray) (w:World) (hs:a.size≤1048576) (hl:a.size=s.size):
  Calls Tryz.prog 307 #[.string a, .string s] w fun e w'=>∃q:Int,e= .returned (.int .i64 q)∧(q=1↔a=s)∧(q=0∨q=1)∧Below w.heap.size w w':=by
 have hmf:∀(fn:Fn) (first cap:Array Value) (w:World),(Instr.makeFunc fn first cap).run Tryz.prog w= .ok (.func fn first cap) w:=fun _ _ _ _=>rfl
 have HL:=Lib.hid hl
 obtain⟨n,hn⟩:∃n,a.size=n:=⟨_,rfl⟩
 have hn2:s.size=n:=by omega
 have hnn:n≤1048576:=by omega
 clear hl hs
 go_enter Tryz.func307,Tryz.ntmps307
 go_wp2_with (first
  |((with_reducible refine aw 9 (.tmp 0) (.string a) rfl (some 2) ?hgd ?ho ?hd ?hx ?_);(case hgd|ho|hd|hx=>rfl);(intro b1 w1 l1 B1 e1 z1);(have c0:=B1.cell (i:=0) rfl))
  |((with_reducible refine aw 9 (.tmp 1) (.string s) rfl (some 3) ?hgd ?ho ?hd ?hx ?_);(case hgd|ho|hd|hx=>rfl);(intro b2 w2 l2 B2 e2 z2);(have B1':=B1.below e2 (Nat.lt_of_lt_of_le z1 l2));(have c0':=B1'.cell (i:=0) rfl);(have c1:=B2.cell (i:=0) rfl))
  |fail)
 have hbel:=(e1.mono l1).trans (e2.mono (Nat.le_trans l1 (Nat.le_of_lt (Nat.lt_of_lt_of_le z1 l2))))
 obtain⟨g,hg⟩:∃g:Nat→UInt8,g=fun k=>a.data.toList.getD k 0^^^s.data.toList.getD k 0:=⟨_,rfl⟩
 have hgk:∀k,a.data.toList.getD k 0^^^s.data.toList.getD k 0=g k:=fun k=>by rw[hg]
 have hor:=lJ g n
 have hsl:=DF (a:=a.data.toList) (b:=s.data.toList) HL.out
 have hext:a.data.toList=s.data.toList↔a=s:=⟨fun h=>ByteArray.ext (Array.toList_inj.1 h),fun h=>by rw[h]⟩
 have hlen:a.data.toList.length=n:=hn
 have hall:fV g n=0↔a=s:=by
  rw[hor,←hext,←hsl,hlen]
  exact⟨fun h k hk=>by rw[hgk];exact h k hk,fun h k hk=>by rw[←hgk];exact h k hk⟩
 have HG:=Lib.hid hgk
 have HALL:=Lib.hid hall
 clear hor hgk hg hsl hext hall hlen
 refine(wK n (.pointer (some ⟨b1,0,none⟩)) (.pointer (some ⟨b2,0,none⟩)) g (fun wx=>Below w.heap.size w wx∧ac wx b1 [.string a] 9∧ac wx b2 [.string s] 9) _ ⟨hbel,B1',B2⟩ hnn (fun k wx hk hI=>(DD a s b1 b2 k (by omega) (by omega) wx hI.2.1 hI.2.2).mono (by rintro e w' ⟨rfl,rfl⟩;rw[HG.out];exact⟨rfl,hI.1.drew,hI.2.1.drew,hI.2.2.drew⟩))).mono ?_
 rintro e w3 ⟨rfl,hb3,_⟩
 go_wp2_with fail
 refine(pq _ _).mono ?_
 rintro e w' ⟨rfl,rfl⟩
 by_cases h:fV g n=0
 ·rw[if_pos h]
  have HO:=Lib.hid (HALL.out.1 h)
  have HB:=Lib.hid hb3
  clear h hb3
  go_wp2_with fail
  go_ret
  exact⟨1,rfl,⟨fun _=>HO.out,fun _=>rfl⟩, .inr rfl,HB.out⟩
 ·rw[if_neg h]
  have HO:=Lib.hid (show¬a=s from fun hh=>h (HALL.out.2 hh))
  have HB:=Lib.hid hb3
  clear h hb3
  go_wp2_with fail
  go_ret
  exact⟨0,rfl,⟨fun hh=>(by cases hh),fun hh=>absurd hh HO.out⟩, .inl rfl,HB.out⟩
theorem kg (a s:ByteArray) (w:World) (hs:a.size≤1048576) (hl:a.size=s.size):
  Calls Tryz.prog 235 #[.string a, .string s] w fun e w'=>e= .returned (.bool (decide (a=s)))∧Below w.heap.size w w':=by
 go_enter Tryz.func235,Tryz.ntmps235
 go_wp2_with fail
 refine(EQ a s _ hs hl).mono ?_
 rintro e w1 ⟨q,rfl,hq,h01,hb⟩
 by_cases h:a=s
 ·obtain rfl:q=1:=hq.2 h
  have HD:=Lib.hid (decide_eq_true h)
  go_wp2_with fail
  go_ret
  exact⟨by rw[HD.out];rfl,hb⟩
 ·obtain rfl:q=0:=by
   rcases h01 with h1|h1
   ·exact h1
   ·exact absurd (hq.1 h1) h
  have HD:=Lib.hid (decide_eq_false h)
  clear h
  go_wp2_with fail
  go_ret
  exact⟨by rw[HD.out];rfl,hb⟩
end Go.Proofs.YtngiibgdgenidaaGreat
