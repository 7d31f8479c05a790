/- A new disk (chapter 8): New. Code that is walked in the body of a range over a function, by the laws of a plain walk: operation by operation, region by region. No program in sight. Format (chapter 25), of a new disk; a range over a function that hands nothing on. -/
import Derived.Test.YtngiibgdgenidaaGreatQ8
import Derived.Deep.RegionLaw
import Derived.RangeFuncFrom
import Derived.RangeFuncCalls
import Derived.RangeFuncLeaves
import Derived.TacticsIn
import Derived.OrdersIn
import Derived.Still
import Derived.StillTail
import Derived.StillTailTactics
import Derived.WalkKit
import Derived.ProofKit
import Derived.Deep.MidRow
import Derived.Laws.StructEq
import Derived.Test.YtngiibgdgenidaaGreatQ10
import Derived.RangeFuncNested
import Derived.RangeFuncBound
import Derived.Test.YtngiibgdgenidaaGreatQ4
import Derived.IntWalk
set_option linter.unusedSimpArgs false
set_option linter.unusedVariables false
set_option maxRecDepth 100000
set_option maxHeartbeats 4000000
namespace Go.Proofs.YtngiibgdgenidaaGreat
open Go Go.RowKit
theorem az.blocked {u w w':World} {db:Nat} {d:am} {v:Value} {l:List ByteArray} (h:az u db d) (hr:w.ownsRow 0 9 1 v l.length (l.map .string)) (hg:u.grownBy w d.bv.ownBlock) (hn:fC u d.bv.ownBlock v.ownBlock)
  (o:bH db w w') (hb:ac w' db ({d with bv:=v,bs:=l}:am).cells 119):bg u w' db d {d with bv:=v,bs:=l}:=by
 have t1:ab (d.foot db) u w:=ab.of_grown hg (fun k hk=>am.mem1 hk)
 have t2:ab [db] w w':=o.turned (by simp)
 have hvdb:v.ownBlock≠some db:=by
  intro he
  rcases hn with h1|h1
  ·exact h.n1 (by rw[←h1];exact he)
  ·have:=h1 db he;have:=h.blk.lt;omega
 refine⟨⟨hb,aB hr t2 (fun k hk hm=>hvdb (by simp at hm;rw[hk,hm])), ?_,hvdb,h.n2, ?_⟩, ?_, ?_⟩
 ·refine aB (S:=[db]) ?_ t2 (fun k hk hm=>h.n2 (by simp at hm;rw[hk,hm]))
  exact aB (S:=d.bv.ownBlock.toList) h.rc (ab.of_grown hg (fun k hk=>by simp[hk])) (fun k hk hm=>h.n3 k (by simpa using hm) hk)
 ·intro g hgb hgv
  rcases hn with h1|h1
  ·exact h.n3 g (by rw[←h1];exact hgb) hgv
  ·have:=h1 g hgb;have:=(h.rc.lt g hgv).2;omega
 ·exact t1.trans (t2.mono (fun x hx=>by simp at hx;subst hx;simp[am.foot]))
 ·intro x hx
  simp only[am.foot,List.mem_cons,List.mem_append,Option.mem_toList,Option.mem_def]at hx ⊢
  rcases hx with hx|hx|hx
  ·exact .inl (.inl hx)
  ·rcases hn with h1|h1
   ·exact .inl (.inr (.inl (by rw[←h1];exact hx)))
   ·exact .inr (h1 x hx)
  ·exact .inl (.inr (.inr hx))
def cn:ByteArray:=⟨(List.replicate 4096 0).toArray⟩
def ba (n:Nat) (v:Value):am:=⟨v,List.replicate n cn, .slice none 0 0,[],false,0⟩
theorem AK:Tryz.prog.built 119 [(1, .bool true)]=some (ba 0 (.slice none 0 0)).cells.toArray:=by kernel_rfl
theorem AL (n:Nat) (w:World) (h8:8≤n) (h1:n≤1024):
  Calls Tryz.prog 34 #[.int .i64 (n:Int)] w fun e w'=>(∃db v,e= .returned (.tuple #[.pointer (some ⟨db,0,none⟩), .int .i64 0])∧az w' db (ba n v)∧∀x,x∈(ba n v).foot db→w.heap.size≤x)∧Below w.heap.size w w':=by
 obtain⟨j0,ji,jz0,jz1,jz2⟩:=info_parts pN
 have hn0:(8:Int)≤(n:Int):=by omega
 have hn1:(n:Int)≤1024:=by omega
 go_enter Tryz.func34,Tryz.ntmps34
 go_wp2_with (first
  |((with_reducible refine ao 119 ?parts ((ba 0 (.slice none 0 0)).cells) ?hg ?ho ?hf ?_);(case hg|ho=>rfl);(case hf=>exact AK))
  |((with_reducible refine ai 119 (.tmp 11) ((ba 0 (.slice none 0 0)).cells) (some 12) ?hgd ?ho ?hd ?hx ?_);(case hgd|ho|hd|hx=>rfl);(intro db w1 l1 B1 e1 z1))
  |fail)
 have hA1:az w1 db (ba 0 (.slice none 0 0)):=⟨B1,World.ownsRow_nil _ _ _ _,World.ownsRow_nil _ _ _ _,by simp[ba,Value.ownBlock],by simp[ba,Value.ownBlock],by simp[ba,Value.ownBlock]⟩
 have HL:=Lib.hid l1
 have hbel:=e1.mono l1
 clear B1 e1 z1
 go_loopw [14] (fun i wr=>∃(k:Nat) (v:Value),k≤n∧i= .int .i64 k∧az wr db (ba k v)∧(∀x,x∈(ba k v).foot db→w.heap.size≤x)∧Below w.heap.size w wr) (fun i _=>n-(intOf i).toNat)
 case atStart=>exact⟨0, .slice none 0 0,by omega,rfl,hA1,by intro x hx;simp[am.foot,ba,Value.ownBlock]at hx;subst hx;exact HL.out,hbel⟩
 case round=>
  clear hA1 hbel
  obtain⟨k,v,hk,rfl,hA,hF,hbel⟩:=hrel
  have HA:=Lib.hid hA
  have HF:=Lib.hid hF
  have HB:=Lib.hid hbel
  clear hA hF hbel
  by_cases hlt:k<n
  ·have hlt':(k:Int)<n:=by omega
   have c0:=HA.out.blk.cell (i:=0) rfl
   obtain⟨pv,cv,hv⟩:=pL HA.out
   have hkl:(ba k v).bs.length=k:=by simp[ba]
   rw[hkl]at hv
   have hv':v= .slice pv k cv:=hv
   subst hv'
   have HKL:=Lib.hid hkl
   clear hv hkl
   go_wp2_with fail
   go_region_law (first
    |(refine rC rfl _ _ 64 rfl j0 (.string ⟨#[]⟩) 16 Tryz.underlying64 ji jz0 jz1 jz2 rfl (by decide) rfl OW7.out ⟨w7.heap.size,0,none⟩ 1 1 [.string s] rfl rfl (cj (ac.new w7 [.string s] 9)) (by intro u hu;simp at hu;subst hu;rfl) (by unfold maxLen;omega) (by omega) (Nat.zero_le _) ?_;intro v' w8 own8 grow8 near8;obtain⟨p8,q8,hv8⟩:=aQ own8;subst hv8;have B8:=HB7.out.grown grow8 (fun he=>HA.out.n1 he.symm);have c8:=B8.cell (i:=0) rfl;have f8:=B8.free 0)
    |(go_simp;go_at_call 74;refine(jh 4096 _ (by decide)).mono ?_;rintro e w7 ⟨s,rfl,ts,hb7⟩;have TS:=Lib.hid ts;have hx7:=(HA.out.below (Below.refl _ _).drew).below hb7;have HX7:=Lib.hid hx7;have ow7:w7.ownsRow 0 9 1 (.slice pv k cv) k ((List.replicate k cn).map .string):=(by have h9:=hx7.rb;rw[HKL.out]at h9;exact h9);have OW7:=Lib.hid (World.ownsRow.alloc ow7 (.cells #[.string s] 9));clear ow7;have HB7:=Lib.hid (hx7.blk.alloc (.cells #[.string s] 9));have c7:=hx7.blk.cell (i:=0) rfl;have c7a:=HB7.out.cell (i:=0) rfl;have HBE7:=Lib.hid (HB.out.drew.trans (hb7.mono HB.out.drew.size));clear ts hx7 hb7)
    |fail)
   all_goals
    have hs:s=cn:=TS.out.of
    have AU:az (w7.alloc (.cells #[.string s] 9)) db (ba k (.slice pv k cv)):=HX7.out.below ((Below.refl _ _).alloc (Nat.le_refl _) _)
    have hr:w8.ownsRow 0 9 1 (.slice p8 (k+1) q8) (List.replicate (k+1) cn).length ((List.replicate (k+1) cn).map .string):=by
     rw[List.length_replicate,List.replicate_succ',List.map_append,←hs]
     rw[←hs]at own8
     exact own8
    have hT:=AU.blocked (w:=w8) (v:= .slice p8 (k+1) q8) (l:=List.replicate (k+1) cn) hr grow8 near8 ((bH.refl db w8).setCell 0 _) (B8.set 0 _)
    have HTO:=Lib.hid hT
    have HSZ:=Lib.hid (show w.heap.size≤(w7.alloc (.cells #[.string s] 9)).heap.size by have:=HBE7.out.size;simp;omega)
    have HBU:=Lib.hid (show Below w.heap.size w (w7.alloc (.cells #[.string s] 9))from HBE7.out.alloc HBE7.out.size _)
    clear hs AU hr hT own8 grow8 near8 B8 c8 f8 c7 c7a
    go_wp2_with fail
    go_roundw
    case rel=>
     refine⟨k+1, .slice p8 (k+1) q8,by omega,by go_num,HTO.out.at',fun x hx=> ?_,HTO.out.turned.below HBU.out HF.out HSZ.out⟩
     rcases HTO.out.foot x hx with h9|h9
     ·exact HF.out x h9
     ·exact Nat.le_trans HSZ.out h9
    case measure=>simp[intOf];omega
  ·obtain rfl:k=n:=by omega
   go_wp2_with fail
   go_ret2
   exact⟨⟨db,v,rfl,HA.out,HF.out⟩,HB.out⟩
section
variable {P:Program} {ops:Array Oper} {Q:Exit→Act→World→Prop} {a:Act} {w:World} {n r:Nat}
def Oper.calm (o:Oper):Bool:=match o.op with| .defer _=>false|_=>true
end
section
variable {P:Program} {ops:Array Oper} {rest:List Oper} {o:Oper} {a:Act} {w:World} {Q:Act→Prop}
end
theorem jO {P:Program} {g:Operand} {ps:Array Tmp} {assign body:Code} {Q:Exit→Act→World→Prop} {a:Act} {w:World} {gf:Nat} {lb:Array Value}
  (hg:a.eval g= .func (.func gf) #[] lb) (eg:∀args w,(callFunc gf args).run P w= .ok (.enter gf args) w)
  (hc:∀(l:Nat) (W:World),Below w.heap.size w W→Calls P gf (#[.func (.yield l) #[] #[]]++lb) W fun e W'=>(∃v,e= .returned v)∧Below W.heap.size W W')
  (hdone:∀(D:Nat) (W:World),w.heap.size≤D→Below w.heap.size w W→W.heap[D]?=some (.deferred (some []))→Q .normal {a with defers:={target:= .collected D,args:=#[]}::a.defers} W):
  (Code.rangeFunc g ps assign body).wp P Q a w:=by
 refine(wpIn_wide (n:=4)).1 ?_
 refine wpIn_rangeFunc_ownF (α:=Empty) (encs:=fun x=>nomatch x) (Kp:=fun _ _=>True) (S:=fun _=>True) (Sp:=fun _=>False) (N:=0) (w0:=w) rfl (by omega) hg trivial eg ?hseq (fun _ _=>trivial) (fun _ _ _ _ _ _ _ _=>trivial) (Below.refl _ _) (fun x=>nomatch x)
  (fun _ W=>Below w.heap.size w W) (fun _ _ _=>False) (ownFrom_below (Nat.le_refl _) (Nat.le_refl _)) (fun c s W W' row h=>h.elim) (Below.refl _ _) (fun x=>nomatch x) (fun l x=>nomatch x) (fun l pre x=>nomatch x) (fun D xs W h1 _ h2 h3=>hdone D W h1 h2 h3) (fun D c pre W _ h=>h.elim)
 case hseq=>
  intro l J Jx W hW hJ hJx hY h0
  exact callsIn_wide.2 ((hc l W hW).mono (fun e W' h=>⟨h.1, .inl ⟨[],trivial,hJ [] W W' none h0 (below_grown h.2) (fun r e=>by cases e)⟩⟩))
def IJ (P:Program) (fn:Func) (R:Ending→World→Prop):Exit→Act→World→Prop
 | .normal,a,w| .ret,a,w=>LeavesInM Fence.wide 4 P fn a.tmps R a.defers .returning w
 |_,_,_=>False
theorem oH {P:Program} {f:FuncId} {fn:Func} {c:Code} {args:Array Value} {w:World} {R:Ending→World→Prop} (hf:P.funcs[f]?=some fn) (hb:fn.body=some c)
  (h:c.wp P (IJ P fn R) {tmps:=args++Array.replicate (fn.ntmps-args.size) undef,defers:=[]} w):Calls P f args w R:=by
 refine(callsIn_wide (n:=4)).1 (callsIn_of_wp_marks hf hb trivial (wpIn_wide.2 (wp_mono h ?_)) rfl)
 intro e a w he
 cases e with
 |normal=>exact he
 |ret=>exact he
 |_=>exact he.elim
theorem lr {w w':World} {D:Nat} {o:Obj} (h:w.heap[D]?=some o) (hb:Below w.heap.size w w'):w'.heap[D]?=some o:=by
 rw[hb.block D (Array.getElem?_eq_some_iff.1 h).1,h]
theorem mW {w w':World} {D:Nat} {o:Obj} {S:List Nat} (h:w.heap[D]?=some o) (hb:ab S w w') (hn:D∉S):w'.heap[D]?=some o:=by
 rw[hb.block D (Array.getElem?_eq_some_iff.1 h).1 hn,h]
theorem Fe (w:World):Sem.run Tryz.prog (zeroValue 37) w= .ok (.int .i64 0) w:=by kernel_rfl
theorem Gv (w:World):Sem.run Tryz.prog (zeroValue 152) w= .ok (.pointer none) w:=by kernel_rfl
theorem Iq:(Tryz.prog.info? 152).map (·.size)=some 1:=by kernel_rfl
theorem Gw:(Tryz.prog.info? 37).map (·.size)=some 1:=by kernel_rfl
theorem AM (db:Nat):Tryz.prog.built 176 [(1, .pointer (some ⟨db,0,none⟩))]=some (bK (.pointer none) db .zero).toArray:=by kernel_rfl
def bC (n:Nat) (v:Value) (i:Nat) (kb q:ByteArray):am:=⟨v,((List.replicate n cn).set i kb).set 1 q, .slice none 0 0,[],false,0⟩
theorem sJ (n:Nat) (v:Value) (i:Nat) (h:i<n):(ba n v).shown i=(⟨(List.replicate 4096 0).toArray⟩:ByteArray):=by
 show(List.replicate n cn).getD i ByteArray.empty=cn
 simp[List.getD,h]
theorem wM (db n f:Nat) (lbas:Int) (v:Value) (key:ByteArray) (w:World) (h:az w db (ba n v)) (hg:dx (⟨(n:Int),lbas,(f:Int)⟩:aK)) (hk:key.size=32):
  Calls Tryz.prog 78 #[.pointer (some ⟨db,0,none⟩),(⟨(n:Int),lbas,(f:Int)⟩:aK).v, .string key] w fun e w'=>e= .returned (.int .i64 0)∧∃kb q,ak kb (fi (f:Int) key.data.toList)∧ak q (eB ⟨1,0,f,0,(⟨(n:Int),lbas,(f:Int)⟩:aK)⟩)∧bg w w' db (ba n v) (bC n v (2+f % 2) kb q):=by
 have hmf:∀(fn:Fn) (first cap:Array Value) (w:World),(Instr.makeFunc fn first cap).run Tryz.prog w= .ok (.func fn first cap) w:=fun _ _ _ _=>rfl
 have hk':(key.size:Int)=32:=by omega
 have HDw:=Lib.hid h
 have HG:=Lib.hid hg
 have HKS:=Lib.hid hk
 have HN:=Lib.hid (show 8≤n∧n≤1024 from⟨by have:=hg.b0;simp only at this;omega,by have:=hg.b1;simp only at this;omega⟩)
 have HF:=Lib.hid (show f<4294967296 from by have:=hg.f1;simp only at this;omega)
 have HBEw:=Lib.hid (Below.refl w.heap.size w)
 clear h hg hk
 refine oH Tryz.func78 rfl ?_
 simp only[Tryz.ntmps78,List.size_toArray,List.length_cons,List.length_nil,Nat.reduceAdd,Nat.reduceSub,Array.replicate_succ,Array.replicate_zero,List.push_toArray,List.append_toArray,List.nil_append,List.cons_append]
 go_wp2_with (first
  |((with_reducible refine ai 31 (.tmp 1) (aK.cells (⟨(n:Int),lbas,(f:Int)⟩:aK)) (some 4) ?hgd ?ho ?hd ?hx ?_);(case hgd|ho|hd|hx=>rfl);(intro b4 w1 l1 B1 e1 z1))
  |((with_reducible refine aG 37 (.int .i64 0) Fe rfl (some 6) ?hgd ?ho ?hd ?_);(case hgd|ho|hd=>rfl);(intro b6 w2 l2 B2 e2 z2))
  |fail)
 have HL4:=Lib.hid l1
 have HL6:=Lib.hid (Nat.le_trans l1 (Nat.le_of_lt (Nat.lt_of_lt_of_le z1 l2)))
 have HB4w2:=Lib.hid (B1.below e2 (Nat.lt_of_lt_of_le z1 l2))
 have HB6w2:=Lib.hid B2
 have HBEw2:=Lib.hid ((e1.mono l1).trans (e2.mono HL6.out))
 have HDw2:=Lib.hid (HDw.out.below HBEw2.out)
 clear B1 B2 e1 e2 l1 l2 z1 z2
 refine wp_region_held_drew (S:=fun wx=>wx.rangeAt b4 0 (aK.cells (⟨(n:Int),lbas,(f:Int)⟩:aK))∧wx.cell? ⟨b4,0,none⟩=some (.int .i64 (n:Int))) (by kernel_rfl) (⟨HB4w2.out.drew.range,HB4w2.out.drew.cell (i:=0) rfl⟩) (fun hHeld=> ?_)
 obtain⟨wd,hwd⟩:∃wd,wd=w2.drew:=⟨_,rfl⟩
 have HB4wd:=Lib.hid (show ac wd b4 (aK.cells (⟨(n:Int),lbas,(f:Int)⟩:aK)) 31 from by rw[hwd];exact HB4w2.out.drew)
 have HB6wd:=Lib.hid (show ac wd b6 [.int .i64 0] 37 from by rw[hwd];exact HB6w2.out.drew)
 have HDwd:=Lib.hid (show az wd db (ba n v)from by rw[hwd];exact HDw2.out.below (Below.refl _ _).drew)
 have HBEwd:=Lib.hid (show Below w.heap.size w wd from by rw[hwd];exact HBEw2.out.drew)
 rw[←hwd]
 rw[←hwd]at hHeld
 clear hwd
 refine wpAnyH_take (i:=0) (v:= .agg (aK.cells (⟨(n:Int),lbas,(f:Int)⟩:aK)).toArray) rfl (by kernel_rfl) (by kernel_rfl) (by kernel_rfl) (fun _ _ _ h=>h) (yieldsIf_load_mid (by rfl) 31 (.tmp 4) rfl b4 0 rfl (aK.cells (⟨(n:Int),lbas,(f:Int)⟩:aK)) _ (fun w h=>h.1) Tryz.underlying31 rfl bP) (by assumption) ?_
 (try go_frame)
 refine wpAnyH_ready (rs:=[1]) (by kernel_rfl) (by simp) ?_
 refine AllReadyH.cons rfl (fun K hK=> ?_) AllReadyH.nil
 go_simp
 refine(eJ (⟨(n:Int),lbas,(f:Int)⟩:aK) _ HG.out).mono ?_
 rintro e w3 ⟨rfl,hb3⟩
 have HB4w3:=Lib.hid (HB4wd.out.below hb3 HB4wd.out.lt)
 have HB6w3:=Lib.hid (HB6wd.out.below hb3 HB6wd.out.lt)
 have HDw3:=Lib.hid (HDwd.out.below hb3)
 have HBEw3:=Lib.hid (HBEwd.out.trans (hb3.mono HBEwd.out.size))
 clear hb3
 (try go_wp2_with fail)
 refine hK.out _ _ (⟨HB4w3.out.range,HB4w3.out.cell (i:=0) rfl⟩) (fun hHeld2=> ?_)
 clear hK K hHeld
 have hHeld:=hHeld2
 clear hHeld2
 (try go_frame)
 refine hp 2 ?_
 refine hp 3 ?_
 refine hp 4 ?_
 refine hp 5 ?_
 refine hp 6 ?_
 refine hp 7 ?_
 refine hp 8 ?_
 refine hp 9 ?_
 refine hp 11 ?_
 refine hp 12 ?_
 refine wpAnyH_ready (rs:=[10]) (by kernel_rfl) (by simp) ?_
 refine AllReadyH.cons rfl (fun K hK=> ?_) AllReadyH.nil
 go_simp
 refine(mL db _ _ HDw3.out).mono ?_
 rintro e w' ⟨rfl,rfl⟩
 rw[show((ba n v).bs.length:Int)=(n:Int)from by rw[show(ba n v).bs=List.replicate n cn from rfl,List.length_replicate]]
 (try go_wp2_with fail)
 refine hK.out _ _ (⟨HB4w3.out.range,HB4w3.out.cell (i:=0) rfl⟩) (fun hHeld2=> ?_)
 clear hK K hHeld
 have hHeld:=hHeld2
 clear hHeld2
 (try go_frame)
 refine hp 13 ?_
 refine hp 14 ?_
 refine wpAnyH_done (by kernel_rfl) ?_ _
 clear hHeld
 go_wp2_with (first
  |((with_reducible refine ao 176 ?parts (bK (.pointer none) db .zero) ?hg ?ho ?hf ?_);(case hg|ho=>rfl);(case hf=>exact AM db))
  |((with_reducible refine ai 176 (.tmp 29) (bK (.pointer none) db .zero) (some 30) ?hgd ?ho ?hd ?hx ?_);(case hgd|ho|hd|hx=>rfl);(intro jb w4 l4 B4 e4 z4))
  |((with_reducible refine aG 152 (.pointer none) Gv rfl (some 7) ?hgd ?ho ?hd ?_);(case hgd|ho|hd=>rfl);(intro b7 w5 l5 B5 e5 z5))
  |((with_reducible refine aj 152 (.tmp 7) (.tmp 30) b7 0 (.pointer (some ⟨jb,0,none⟩)) [.pointer none] 152 B5 (by decide) Iq rfl ?hgd ?ho ?hx ?hy ?_);(case hgd|ho|hx|hy=>rfl);(intro w6 B6 o6))
  |fail)
 have hw5:w.heap.size≤w3.heap.size:=HBEw3.out.size
 have HLJ:=Lib.hid (show w.heap.size≤jb by omega)
 have HNE6:=Lib.hid (show b6≠jb by have:=HB6w3.out.lt;omega)
 have HL7:=Lib.hid (show w.heap.size≤b7 by omega)
 have hb6:Below w3.heap.size w3 w6:=o6.below ((e4.mono l4).trans (e5.mono (by omega))) (by omega)
 have HB4w6:=Lib.hid (HB4w3.out.below hb6 HB4w3.out.lt)
 have HB6w6:=Lib.hid (HB6w3.out.below hb6 HB6w3.out.lt)
 have HDw6:=Lib.hid (HDw3.out.below hb6)
 have HBEw6:=Lib.hid (HBEw3.out.trans (hb6.mono HBEw3.out.size))
 have HB7w6:=Lib.hid B6
 have HJw6:=Lib.hid (o6.blk (B4.below e5 (by omega)) (by omega))
 clear hb6 B4 B5 B6 e4 e5 o6 l4 l5 z4 z5 hw5
 refine(qK db _ _ HDw6.out).mono ?_
 rintro e w7 ⟨rfl,rfl⟩
 have q0:=HB4w6.out.cell (i:=0) rfl
 go_wp2_with fail
 refine(oG db 0 (n:Int) _).mono ?_
 rintro e w8 ⟨⟨pf,pt,pd,rfl,hu⟩,hb8⟩
 have HB4w8:=Lib.hid (HB4w6.out.below hb8 HB4w6.out.lt)
 have HB6w8:=Lib.hid (HB6w6.out.below hb8 HB6w6.out.lt)
 have HB7w8:=Lib.hid (HB7w6.out.below hb8 HB7w6.out.lt)
 have HJw8:=Lib.hid (HJw6.out.below hb8 HJw6.out.lt)
 have HDw8:=Lib.hid (HDw6.out.below hb8)
 have HBEw8:=Lib.hid (HBEw6.out.trans (hb8.mono HBEw6.out.size))
 have HU:=Lib.hid hu
 clear hu hb8 q0
 go_wp2_with fail
 refine jO rfl (enters_of Tryz.func248 (by kernel_rfl) rfl) ?_ ?_
 ·intro l W hW
  exact(mV _ db pf pt pd (ba n v) 0 n W (HDw8.out.below hW) (HU.out.below hW) (Nat.zero_le _) (by show n≤(List.replicate n cn).length;rw[List.length_replicate];exact Nat.le_refl _) rfl (by show 0≤4096;decide) (by show(List.replicate n cn).length≤1024;rw[List.length_replicate];exact HN.out.2) (fun i _ hi=>sJ n v i hi)).mono (fun e W' h=>⟨⟨_,h.1⟩,h.2⟩)
 intro D w9 hD hb9 hk9
 have HLD:=Lib.hid (Nat.le_trans HBEw8.out.size hD)
 have HNED:=Lib.hid (show D≠jb by have:=HJw8.out.lt;omega)
 have HB4w9:=Lib.hid (HB4w8.out.below hb9 HB4w8.out.lt)
 have HB6w9:=Lib.hid (HB6w8.out.below hb9 HB6w8.out.lt)
 have HB7w9:=Lib.hid (HB7w8.out.below hb9 HB7w8.out.lt)
 have HJw9:=Lib.hid (HJw8.out.below hb9 HJw8.out.lt)
 have HDw9:=Lib.hid (HDw8.out.below hb9)
 have HBEw9:=Lib.hid (HBEw8.out.trans (hb9.mono HBEw8.out.size))
 have HKw9:=Lib.hid hk9
 clear hD hb9 hk9
 have q2:=HB4w9.out.cell (i:=2) rfl
 go_wp2_with fail
 refine(jL f key _ HF.out HKS.out).mono ?_
 rintro e wk ⟨kb,rfl,tk,hbk⟩
 have HTK:=Lib.hid tk
 have HB4wk:=Lib.hid (HB4w9.out.below hbk HB4w9.out.lt)
 have HB6wk:=Lib.hid (HB6w9.out.below hbk HB6w9.out.lt)
 have HB7wk:=Lib.hid (HB7w9.out.below hbk HB7w9.out.lt)
 have HJwk:=Lib.hid (HJw9.out.below hbk HJw9.out.lt)
 have HDwk:=Lib.hid (HDw9.out.below hbk)
 have HBEwk:=Lib.hid (HBEw9.out.trans (hbk.mono HBEw9.out.size))
 have HKwk:=Lib.hid (lr HKw9.out hbk)
 clear tk hbk q2
 go_wp2_with fail
 refine wp_region_held_drew (S:=fun wx=>wx.cell? ⟨b4,2,none⟩=some (.int .i64 (f:Int))∧wx.cell? ⟨b7,0,none⟩=some (.pointer (some ⟨jb,0,none⟩))) (by kernel_rfl) (⟨HB4wk.out.drew.cell (i:=2) rfl,HB7wk.out.drew.cell (i:=0) rfl⟩) (fun hHeld=> ?_)
 obtain⟨we,hwe⟩:∃we,we=wk.drew:=⟨_,rfl⟩
 have HB4we:=Lib.hid (show ac we b4 (aK.cells (⟨(n:Int),lbas,(f:Int)⟩:aK)) 31 from by rw[hwe];exact HB4wk.out.drew)
 have HB6we:=Lib.hid (show ac we b6 [.int .i64 0] 37 from by rw[hwe];exact HB6wk.out.drew)
 have HB7we:=Lib.hid (show ac we b7 [.pointer (some ⟨jb,0,none⟩)] 152 from by rw[hwe];exact HB7wk.out.drew)
 have HJwe:=Lib.hid (show ac we jb (bK (.pointer none) db .zero) 176 from by rw[hwe];exact HJwk.out.drew)
 have HDwe:=Lib.hid (show az we db (ba n v)from by rw[hwe];exact HDwk.out.below (Below.refl _ _).drew)
 have HBEwe:=Lib.hid (show Below w.heap.size w we from by rw[hwe];exact HBEwk.out.drew)
 have HKwe:=Lib.hid (show we.heap[D]?=some (.deferred (some []))from by rw[hwe];exact HKwk.out)
 rw[←hwe]
 rw[←hwe]at hHeld
 clear hwe
 refine hp 0 ?_
 refine hp 1 ?_
 refine hp 2 ?_
 refine hp 3 ?_
 refine hp 4 ?_
 refine hp 5 ?_
 refine hp 7 ?_
 refine hp 9 ?_
 refine hp 10 ?_
 refine wpAnyH_ready (rs:=[6]) (by kernel_rfl) (by simp) ?_
 refine AllReadyH.cons rfl (fun K hK=> ?_) AllReadyH.nil
 go_simp
 refine(gq (f:Int) _ (by omega)).mono ?_
 rintro e w' ⟨rfl,rfl⟩
 (try go_wp2_with fail)
 refine hK.out _ _ (⟨HB4we.out.cell (i:=2) rfl,HB7we.out.cell (i:=0) rfl⟩) (fun hHeld2=> ?_)
 clear hK K hHeld
 have hHeld:=hHeld2
 clear hHeld2
 (try go_frame)
 refine wpAnyH_ready (rs:=[8]) (by kernel_rfl) (by simp) ?_
 refine AllReadyH.cons rfl (fun K hK=> ?_) AllReadyH.nil
 go_simp
 refine(gX jb (2+(f:Int) % 2) kb _).mono ?_
 rintro e wa ⟨⟨p3,p4,p5,rfl,bE,g3,g4,g5⟩,hb6⟩
 have HB4wa:=Lib.hid (HB4we.out.below hb6 HB4we.out.lt)
 have HB6wa:=Lib.hid (HB6we.out.below hb6 HB6we.out.lt)
 have HB7wa:=Lib.hid (HB7we.out.below hb6 HB7we.out.lt)
 have HJwa:=Lib.hid (HJwe.out.below hb6 HJwe.out.lt)
 have HDwa:=Lib.hid (HDwe.out.below hb6)
 have HBEwa:=Lib.hid (HBEwe.out.trans (hb6.mono HBEwe.out.size))
 have HSTa:=Lib.hid bE
 have HGE:=Lib.hid (And.intro g3 (And.intro g4 g5))
 have HLa:=Lib.hid hb6.size
 have HKwa:=Lib.hid (lr HKwe.out hb6)
 clear bE g3 g4 g5 hb6
 (try go_wp2_with fail)
 refine hK.out _ _ (⟨HB4wa.out.cell (i:=2) rfl,HB7wa.out.cell (i:=0) rfl⟩) (fun hHeld2=> ?_)
 clear hK K hHeld
 have hHeld:=hHeld2
 clear hHeld2
 (try go_frame)
 refine wpAnyH_ready (rs:=[11]) (by kernel_rfl) (by simp) ?_
 refine AllReadyH.cons rfl (fun K hK=> ?_) AllReadyH.nil
 go_simp
 obtain⟨wb,hwb⟩:∃wb,wb=wa.alloc (Obj.cells #[.func (.func 152) #[.pointer (some ⟨db,0,none⟩)] #[], .func (.func 250) #[] #[.pointer (some ⟨p3,0,none⟩), .pointer (some ⟨p4,0,none⟩), .pointer (some ⟨p5,0,none⟩)], .func (.func 152) #[.pointer (some ⟨db,0,none⟩)] #[]] 48):=⟨_,rfl⟩
 rw[←hwb]
 have hb7:Below wa.heap.size wa wb:=by rw[hwb];exact(Below.refl _ _).alloc (Nat.le_refl _) _
 have hrow:ac wb wa.heap.size [.func (.func 152) #[.pointer (some ⟨db,0,none⟩)] #[], .func (.func 250) #[] #[.pointer (some ⟨p3,0,none⟩), .pointer (some ⟨p4,0,none⟩), .pointer (some ⟨p5,0,none⟩)], .func (.func 152) #[.pointer (some ⟨db,0,none⟩)] #[]] 48:=by rw[hwb];exact ac.new wa [.func (.func 152) #[.pointer (some ⟨db,0,none⟩)] #[], .func (.func 250) #[] #[.pointer (some ⟨p3,0,none⟩), .pointer (some ⟨p4,0,none⟩), .pointer (some ⟨p5,0,none⟩)], .func (.func 152) #[.pointer (some ⟨db,0,none⟩)] #[]] 48
 have HB4wb:=Lib.hid (HB4wa.out.below hb7 HB4wa.out.lt)
 have HB6wb:=Lib.hid (HB6wa.out.below hb7 HB6wa.out.lt)
 have HB7wb:=Lib.hid (HB7wa.out.below hb7 HB7wa.out.lt)
 have HJwb:=Lib.hid (HJwa.out.below hb7 HJwa.out.lt)
 have HDwb:=Lib.hid (HDwa.out.below hb7)
 have HBEwb:=Lib.hid (HBEwa.out.trans (hb7.mono HBEwa.out.size))
 have HROW:=Lib.hid hrow
 have HSTb:=Lib.hid (HSTa.out.below hb7)
 have HKwb:=Lib.hid (lr HKwa.out hb7)
 clear hrow hb7 hwb
 (try go_wp2_with fail)
 refine hK.out _ _ (⟨HB4wb.out.cell (i:=2) rfl,HB7wb.out.cell (i:=0) rfl⟩) (fun hHeld2=> ?_)
 clear hK K hHeld
 have hHeld:=hHeld2
 clear hHeld2
 (try go_frame)
 refine wpAnyH_ready (rs:=[12]) (by kernel_rfl) (by simp) ?_
 refine AllReadyH.cons rfl (fun K hK=> ?_) AllReadyH.nil
 go_simp
 refine(wH jb db wa.heap.size 3 p3 p4 p5 48 (ba n v) (2+(f:Int) % 2) kb _ HDwb.out HROW.out (HJwb.out.cell (i:=1) rfl) HJwb.out.lt HSTb.out (by
  intro x hx hm
  have hlt:=HDw.out.lt x hm
  have h1:=HGE.out
  have h2:=HLa.out
  have h3:=HBEwe.out.size
  have h4:=HLJ.out
  rcases hx with rfl|rfl|rfl|rfl|rfl<;>omega) rfl rfl (by show 0<4096;decide) (by show(List.replicate n cn).length≤1024;rw[List.length_replicate];exact HN.out.2) (by intro j p hp;simp[ba]at hp) (by omega) (by show _<((List.replicate n cn).length:Int);rw[List.length_replicate];have:=HN.out.1;omega) (by rw[HTK.out.size,lH (by simpa using HKS.out)])).mono ?_
 rintro e wc ⟨rfl,d',hd',ht⟩
 have hnf:∀x,w.heap.size≤x→x∉(ba n v).foot db:=fun x hx hm=>by have:=HDw.out.lt x hm;omega
 have HB4wc:=Lib.hid (ht.turned.blk HB4wb.out (hnf b4 HL4.out))
 have HB6wc:=Lib.hid (ht.turned.blk HB6wb.out (hnf b6 HL6.out))
 have HB7wc:=Lib.hid (ht.turned.blk HB7wb.out (hnf b7 HL7.out))
 have HJwc:=Lib.hid (ht.turned.blk HJwb.out (hnf jb HLJ.out))
 have HKwc:=Lib.hid (mW HKwb.out ht.turned (hnf D HLD.out))
 have HT:=Lib.hid ht
 subst hd'
 clear ht hnf
 (try go_wp2_with fail)
 refine hK.out _ _ (⟨HB4wc.out.cell (i:=2) rfl,HB7wc.out.cell (i:=0) rfl⟩) (fun hHeld2=> ?_)
 clear hK K hHeld
 have hHeld:=hHeld2
 clear hHeld2
 (try go_frame)
 refine hp 13 ?_
 refine wpAnyH_done (by kernel_rfl) ?_ _
 clear hHeld
 have q7:=HB7wc.out.cell (i:=0) rfl
 have q2:=HB4wc.out.cell (i:=2) rfl
 go_wp2_with (first
  |((with_reducible refine ag 31 (.tmp 4) b4 0 (aK.cells (⟨(n:Int),lbas,(f:Int)⟩:aK)) _ (some 74) HB4wc.out.range Tryz.underlying31 rfl bP ?hg ?ho ?hds ?hx ?_);(case ho|hg|hds|hx=>rfl))
  |((with_reducible refine ao 174 ?parts (aD.cells ⟨1,0,f,0,(⟨(n:Int),lbas,(f:Int)⟩:aK)⟩) ?hg ?ho ?hf ?_);(case hg|ho=>rfl);(case hf=>kernel_rfl))
  |fail)
 clear q7 q2
 obtain⟨d1,hd1⟩:∃d1:am,d1=(({(ba n v).flushed with cs:=[(2+(f:Int) % 2,kb)]}:am)).flushed:=⟨_,rfl⟩
 have HD1:=Lib.hid hd1
 have HTT:=Lib.hid (show bg wb wc db (ba n v) d1 from by rw[hd1];exact HT.out)
 have x1:d1.down=false:=by rw[hd1];rfl
 have x2:d1.left=0:=by rw[hd1];rfl
 have x3:d1.cs=[]:=by rw[hd1];rfl
 have x4:d1.bs=(List.replicate n cn).set (2+f % 2) kb:=by
  rw[hd1]
  show(List.replicate n cn).set (2+(f:Int) % 2).toNat kb= _
  rw[show(2+(f:Int) % 2).toNat=2+f % 2 by omega]
 have x5:d1.bs.length=n:=by rw[x4,List.length_set,List.length_replicate]
 have x6:d1.bv=v:=by rw[hd1];rfl
 have x7:d1.cv= .slice none 0 0:=by rw[hd1];rfl
 clear hd1 HT
 have hn:=HN.out
 refine(mU jb db (.pointer none) d1 .zero ⟨1,0,f,0,(⟨(n:Int),lbas,(f:Int)⟩:aK)⟩ _ HTT.out.at' HJwc.out (fun hm=>(HTT.out.foot jb hm).elim (fun h9=>by have:=HDw.out.lt jb h9;have:=HLJ.out;omega) (fun h9=>by have:=HJwb.out.lt;omega))
  ⟨HG.out,(by show(1:Int)≤1;decide),(by show(1:Int)≤1152921504606846976;decide),(by show(0:Int)≤0;decide),by show(0:Int)≤(n:Int)-4;omega,Int.le_refl _,by show(f:Int)<4294967296;have:=HF.out;omega,(by show(0:Int)≤0;decide),(by show(0:Int)≤1099511627776;decide)⟩ x1 x2 (by rw[x3];decide) (by rw[x5];exact hn.2) (by rw[x5];omega) (by intro j p hp;rw[x3]at hp;simp at hp)).mono ?_
 rintro e wf ⟨rfl,d2,q,hd2,tq,hat,hjf,htu,hft⟩
 have hbs:=HBEwb.out.size
 have h0:=HBEwb.out
 have htc:ab ((ba n v).foot db) w wc:=(ab.of_below h0 (Nat.le_refl _)).trans HTT.out.turned
 have hfc:∀x,x∈d1.foot db→x∈(ba n v).foot db∨w.heap.size≤x:=fun x hx=>(HTT.out.foot x hx).elim .inl (fun h9=> .inr (Nat.le_trans hbs h9))
 have htf:ab ((ba n v).foot db) w wf:=htc.on htu (fun x hx=>by
  simp only[List.mem_cons]at hx
  rcases hx with rfl|hx
  ·exact .inr HLJ.out
  ·exact hfc x hx)
 have hff:∀x,x∈d2.foot db→x∈(ba n v).foot db∨w.heap.size≤x:=fun x hx=>(hft x hx).elim (fun h9=>hfc x h9) (fun h9=> .inr (Nat.le_trans htc.size h9))
 have x8:d1.foot db=(ba n v).foot db:=by unfold am.foot;rw[x6,x7];rfl
 have hn6:∀x,w.heap.size≤x→x≠jb→x∉jb::d1.foot db:=fun x h1 h3 hm=>by
  simp only[List.mem_cons]at hm
  rcases hm with rfl|hm
  ·exact h3 rfl
  ·rw[x8]at hm
   have:=HDw.out.lt x hm
   omega
 have e2:d2=bC n v (2+f % 2) kb q:=by
  rw[hd2]
  unfold am.flushed bC
  simp only[x3,List.nil_append,List.length_singleton,fH,x6,x4,x1,x2]
  rfl
 have B6f:=htu.blk HB6wc.out (hn6 b6 HL6.out HNE6.out)
 have hkf:=mW HKwc.out htu (hn6 D HLD.out HNED.out)
 have hsz:b6<wf.heap.size:=B6f.lt
 have hn2:∀x,w.heap.size≤x→x∉(ba n v).foot db:=fun x hx hm=>by have:=HDw.out.lt x hm;omega
 have hDw:D≠b6:=fun h9=>by
  subst h9
  have h10:=B6f
  unfold ac at h10
  rw[h10]at hkf
  cases hkf
 go_wp2_with (first
  |((with_reducible refine aj 37 (.tmp 6) (.tmp 76) b6 0 (.int .i64 0) [.int .i64 0] 37 B6f (by decide) Gw rfl ?hgd ?ho ?hx ?hy ?_);(case hgd|ho|hx|hy=>rfl);(intro wg Bg og))
  |fail)
 have hkg:wg.heap[D]?=some (.deferred (some [])):=by rw[og.block D hDw];exact hkf
 refine⟨by simp, .inl ⟨_,_,rfl,run_takeDeferred hkg, ?_⟩⟩
 have hgw:=grownBy_putObj' wg D (.deferred none)
 have htg:ab [b6] wf wg:=og.turned (by simp)
 have htz:ab [D] wg (wg.putObj D (.deferred none)):=ab.of_grown hgw (fun k e=>by cases e;simp)
 have r6:(wg.putObj D (.deferred none)).cell? ⟨b6,0,none⟩=some (.int .i64 0):=(htz.blk Bg (by simp;exact fun h9=>hDw h9.symm)).cell (i:=0) rfl
 have hn5:∀x,w.heap.size≤x→x≠jb→x<wc.heap.size→x∉d2.foot db:=fun x h1 h2 h3 hm=>by
  rcases hft x hm with h9|h9
  ·exact hn6 x h1 h2 (by simp[h9])
  ·omega
 have hn61:=hn5 b6 HL6.out HNE6.out HB6wc.out.lt
 have hnD1:=hn5 D HLD.out HNED.out (Array.getElem?_eq_some_iff.1 HKwc.out).1
 have hat1:az wg db d2:=hat.turned htg (fun x hx h9=>by simp at h9;subst h9;exact hn61 hx)
 have hat2:az (wg.putObj D (.deferred none)) db d2:=hat1.turned htz (fun x hx h9=>by simp at h9;subst h9;exact hnD1 hx)
 rw[e2]at hat2 hff
 refine⟨.int .i64 0, ?_,rfl,kb,q,HTK.out,tq,hat2,(htf.on htg (fun x hx=>by simp at hx;subst hx;exact .inr HL6.out)).on htz (fun x hx=>by simp at hx;subst hx;exact .inr HLD.out),hff⟩
 simp[results,Tryz.f78,go_sem,r6]
theorem mi (jb db:Nat) (sv:Value) (last:aD) (i:Int) (w:World) (h:ac w jb (bK sv db last) 176) (hg:dx last.geo) (h0:0≤i) (h1:i<last.geo.blocks-4):
  Calls Tryz.prog 185 #[.pointer (some ⟨jb,0,none⟩), .int .i64 i] w fun e w'=>e= .returned (.int .i64 (4+i))∧Below w.heap.size w w':=by
 have hr:w.rangeAt jb 6 last.geo.cells:=by
  intro j v hv
  match j,hv with
  |0,hv=>simp[aK.cells]at hv;subst hv;exact h.cell (i:=6) rfl
  |1,hv=>simp[aK.cells]at hv;subst hv;exact h.cell (i:=7) rfl
  |2,hv=>simp[aK.cells]at hv;subst hv;exact h.cell (i:=8) rfl
  |j+3,hv=>simp[aK.cells]at hv
 go_enter Tryz.func185,Tryz.ntmps185
 go_wp2_with (first
  |((with_reducible refine ag 31 (.tmp 11) jb 6 last.geo.cells _ (some 12) hr Tryz.underlying31 rfl bP ?hg ?ho ?hds ?hx ?_);(case ho|hg|hds|hx=>rfl))
  |fail)
 refine(rI last.geo i _ hg h0 h1).mono ?_
 rintro e w1 ⟨rfl,hb⟩
 go_wp2_with fail
 go_ret
 exact⟨rfl,hb⟩
theorem wN (jb db n t ep:Nat) (sv:Value) (gen clock lbas first:Int) (d:am) (w:World) (h:az w db d) (hj:ac w jb (bK sv db (⟨gen,(t:Int),(ep:Int),clock,⟨(n:Int),lbas,first⟩⟩:aD)) 176) (hg:dx ⟨(n:Int),lbas,first⟩)
  (hd:d.down=false) (hc:d.cs.length≤4096) (hb:d.bs.length≤1024) (hn:d.bs.length=n) (hep:ep<4294967296) (ht:4+t≤n) (hsh:∀i,4+t≤i→i<n→d.shown i=(⟨(List.replicate 4096 0).toArray⟩:ByteArray)) (bE:(if ep % 2=0 then d.shown 3 else d.shown 2)=(⟨(List.replicate 4096 0).toArray⟩:ByteArray)):
  Calls Tryz.prog 261 #[.pointer (some ⟨jb,0,none⟩)] w fun e w'=>e= .returned (.int .i64 0)∧Below w.heap.size w w':=by
 have hmf:∀(fn:Fn) (first cap:Array Value) (w:World),(Instr.makeFunc fn first cap).run Tryz.prog w= .ok (.func fn first cap) w:=fun _ _ _ _=>rfl
 have HDw:=Lib.hid h
 have HJw:=Lib.hid hj
 have HG:=Lib.hid hg
 have HDN:=Lib.hid hd
 have HC:=Lib.hid hc
 have HB:=Lib.hid hb
 have HN:=Lib.hid (show 8≤n∧d.bs.length=n from⟨by have:=hg.b0;simp only at this;omega,hn⟩)
 have HEP:=Lib.hid hep
 have HT:=Lib.hid ht
 have HSH:=Lib.hid hsh
 have HST:=Lib.hid bE
 have HBEw:=Lib.hid (Below.refl w.heap.size w)
 clear h hj hg hd hc hb hn hep ht hsh bE
 refine oH Tryz.func261 rfl ?_
 simp only[Tryz.ntmps261,List.size_toArray,List.length_cons,List.length_nil,Nat.reduceAdd,Nat.reduceSub,Array.replicate_succ,Array.replicate_zero,List.push_toArray,List.append_toArray,List.nil_append,List.cons_append]
 go_wp2_with fail
 refine wp_region_held_drew (S:=fun wx=>wx.cell? ⟨jb,1,none⟩=some (.pointer (some ⟨db,0,none⟩))∧wx.cell? ⟨jb,3,none⟩=some (.int .i64 (t:Int))∧wx.cell? ⟨jb,6,none⟩=some (.int .i64 (n:Int))) (by kernel_rfl) (⟨HJw.out.drew.cell (i:=1) rfl,HJw.out.drew.cell (i:=3) rfl,HJw.out.drew.cell (i:=6) rfl⟩) (fun hHeld=> ?_)
 obtain⟨wi,hwi⟩:∃wi,wi=w.drew:=⟨_,rfl⟩
 have HJwi:=Lib.hid (show ac wi jb (bK sv db (⟨gen,(t:Int),(ep:Int),clock,⟨(n:Int),lbas,first⟩⟩:aD)) 176 from by rw[hwi];exact HJw.out.drew)
 have HDwi:=Lib.hid (show az wi db d from by rw[hwi];exact HDw.out.below (Below.refl _ _).drew)
 have HBEwi:=Lib.hid (show Below w.heap.size w wi from by rw[hwi];exact HBEw.out.drew)
 rw[←hwi]
 rw[←hwi]at hHeld
 clear hwi
 refine hp 0 ?_
 refine hp 1 ?_
 refine hp 2 ?_
 refine hp 3 ?_
 refine wpAnyH_ready (rs:=[4]) (by kernel_rfl) (by simp) ?_
 refine AllReadyH.cons rfl (fun K hK=> ?_) AllReadyH.nil
 go_simp
 refine(gq 0 _ (by decide)).mono ?_
 rintro e w' ⟨rfl,rfl⟩
 (try go_wp2_with fail)
 refine hK.out _ _ (⟨HJwi.out.cell (i:=1) rfl,HJwi.out.cell (i:=3) rfl,HJwi.out.cell (i:=6) rfl⟩) (fun hHeld2=> ?_)
 clear hK K hHeld
 have hHeld:=hHeld2
 clear hHeld2
 (try go_frame)
 refine wpAnyH_ready (rs:=[5]) (by kernel_rfl) (by simp) ?_
 refine AllReadyH.cons rfl (fun K hK=> ?_) AllReadyH.nil
 go_simp
 refine(ff db d _ HDwi.out HDN.out 2 (by have:=HN.out;omega) HC.out HB.out).mono ?_
 rintro e w' ⟨rfl,rfl⟩
 (try go_wp2_with fail)
 refine hK.out _ _ (⟨HJwi.out.cell (i:=1) rfl,HJwi.out.cell (i:=3) rfl,HJwi.out.cell (i:=6) rfl⟩) (fun hHeld2=> ?_)
 clear hK K hHeld
 have hHeld:=hHeld2
 clear hHeld2
 (try go_frame)
 refine hp 6 ?_
 refine hp 7 ?_
 refine hp 8 ?_
 refine hp 9 ?_
 refine hp 10 ?_
 refine wpAnyH_done (by kernel_rfl) ?_ _
 clear hHeld
 go_wp2_with fail
 refine wp_region_held_drew (S:=fun wx=>wx.cell? ⟨jb,1,none⟩=some (.pointer (some ⟨db,0,none⟩))∧wx.cell? ⟨jb,3,none⟩=some (.int .i64 (t:Int))∧wx.cell? ⟨jb,6,none⟩=some (.int .i64 (n:Int))) (by kernel_rfl) (⟨HJwi.out.drew.cell (i:=1) rfl,HJwi.out.drew.cell (i:=3) rfl,HJwi.out.drew.cell (i:=6) rfl⟩) (fun hHeld=> ?_)
 obtain⟨wj,hwj⟩:∃wj,wj=wi.drew:=⟨_,rfl⟩
 have HJwj:=Lib.hid (show ac wj jb (bK sv db (⟨gen,(t:Int),(ep:Int),clock,⟨(n:Int),lbas,first⟩⟩:aD)) 176 from by rw[hwj];exact HJwi.out.drew)
 have HDwj:=Lib.hid (show az wj db d from by rw[hwj];exact HDwi.out.below (Below.refl _ _).drew)
 have HBEwj:=Lib.hid (show Below w.heap.size w wj from by rw[hwj];exact HBEwi.out.drew)
 rw[←hwj]
 rw[←hwj]at hHeld
 clear hwj
 refine hp 0 ?_
 refine hp 1 ?_
 refine hp 2 ?_
 refine hp 3 ?_
 refine wpAnyH_ready (rs:=[4]) (by kernel_rfl) (by simp) ?_
 refine AllReadyH.cons rfl (fun K hK=> ?_) AllReadyH.nil
 go_simp
 refine(gq 1 _ (by decide)).mono ?_
 rintro e w' ⟨rfl,rfl⟩
 (try go_wp2_with fail)
 refine hK.out _ _ (⟨HJwj.out.cell (i:=1) rfl,HJwj.out.cell (i:=3) rfl,HJwj.out.cell (i:=6) rfl⟩) (fun hHeld2=> ?_)
 clear hK K hHeld
 have hHeld:=hHeld2
 clear hHeld2
 (try go_frame)
 refine wpAnyH_ready (rs:=[5]) (by kernel_rfl) (by simp) ?_
 refine AllReadyH.cons rfl (fun K hK=> ?_) AllReadyH.nil
 go_simp
 refine(ff db d _ HDwj.out HDN.out 3 (by have:=HN.out;omega) HC.out HB.out).mono ?_
 rintro e w' ⟨rfl,rfl⟩
 (try go_wp2_with fail)
 refine hK.out _ _ (⟨HJwj.out.cell (i:=1) rfl,HJwj.out.cell (i:=3) rfl,HJwj.out.cell (i:=6) rfl⟩) (fun hHeld2=> ?_)
 clear hK K hHeld
 have hHeld:=hHeld2
 clear hHeld2
 (try go_frame)
 refine hp 6 ?_
 refine hp 7 ?_
 refine hp 8 ?_
 refine hp 9 ?_
 refine hp 10 ?_
 refine wpAnyH_done (by kernel_rfl) ?_ _
 clear hHeld
 go_wp2_with (first
  |((with_reducible refine aG 22 (.slice none 0 0) ud rfl (some 7) ?hgd ?ho ?hd ?_);(case hgd|ho|hd=>rfl);(intro b7 wk l7 B7 e7 z7;have q4:=(HJwj.out.below e7 (Nat.lt_of_lt_of_le HJwj.out.lt l7)).cell (i:=4) rfl))
  |fail)
 have hw0:=HBEwj.out.size
 have HL7:=Lib.hid (Nat.le_trans hw0 l7)
 have hb7:Below wj.heap.size wj wk:=e7.mono l7
 have HJwk:=Lib.hid (HJwj.out.below hb7 HJwj.out.lt)
 have HDwk:=Lib.hid (HDwj.out.below hb7)
 have HBEwk:=Lib.hid (HBEwj.out.trans (hb7.mono HBEwj.out.size))
 have HB7wk:=Lib.hid B7
 clear q4 l7 B7 e7 z7 hb7 hw0
 refine(pO ep (d.shown 2) (d.shown 3) _ HEP.out HST.out).mono ?_
 rintro e wl ⟨rfl,hbl⟩
 have HJwl:=Lib.hid (HJwk.out.below hbl HJwk.out.lt)
 have HB7wl:=Lib.hid (HB7wk.out.below hbl HB7wk.out.lt)
 have HDwl:=Lib.hid (HDwk.out.below hbl)
 have HBEwl:=Lib.hid (HBEwk.out.trans (hbl.mono HBEwk.out.size))
 clear hbl
 go_wp2_with fail
 go_loopw [41] (fun v wr=>v= .int .i64 0∧wl=wr) (fun _ _=>0)
 case atStart=>exact⟨rfl,rfl⟩
 case round=>
  obtain⟨rfl,rfl⟩:=hrel
  go_wp2_with fail
  refine wp_region_held_drew (S:=fun wx=>wx.cell? ⟨jb,1,none⟩=some (.pointer (some ⟨db,0,none⟩))∧wx.cell? ⟨jb,3,none⟩=some (.int .i64 (t:Int))∧wx.cell? ⟨jb,6,none⟩=some (.int .i64 (n:Int))) (by kernel_rfl) (⟨HJwl.out.drew.cell (i:=1) rfl,HJwl.out.drew.cell (i:=3) rfl,HJwl.out.drew.cell (i:=6) rfl⟩) (fun hHeld=> ?_)
  obtain⟨wn,hwn⟩:∃wn,wn=wl.drew:=⟨_,rfl⟩
  have HJwn:=Lib.hid (show ac wn jb (bK sv db (⟨gen,(t:Int),(ep:Int),clock,⟨(n:Int),lbas,first⟩⟩:aD)) 176 from by rw[hwn];exact HJwl.out.drew)
  have HDwn:=Lib.hid (show az wn db d from by rw[hwn];exact HDwl.out.below (Below.refl _ _).drew)
  have HBEwn:=Lib.hid (show Below w.heap.size w wn from by rw[hwn];exact HBEwl.out.drew)
  have HB7wn:=Lib.hid (show ac wn b7 [.slice none 0 0] 22 from by rw[hwn];exact HB7wl.out.drew)
  rw[←hwn]
  rw[←hwn]at hHeld
  clear hwn
  refine hp 0 ?_
  refine hp 1 ?_
  refine hp 2 ?_
  refine hp 3 ?_
  refine hp 4 ?_
  refine hp 6 ?_
  refine hp 7 ?_
  refine hp 8 ?_
  refine hp 9 ?_
  refine hp 10 ?_
  refine hp 12 ?_
  refine hp 13 ?_
  refine hp 14 ?_
  refine hp 15 ?_
  refine hp 16 ?_
  refine hp 17 ?_
  refine wpAnyH_ready (rs:=[5]) (by kernel_rfl) (by simp) ?_
  refine AllReadyH.cons rfl (fun K hK=> ?_) AllReadyH.nil
  go_simp
  refine(mi jb db sv (⟨gen,(t:Int),(ep:Int),clock,⟨(n:Int),lbas,first⟩⟩:aD) 0 _ HJwn.out HG.out (by decide) (by show(0:Int)<(n:Int)-4;have:=HN.out;omega)).mono ?_
  rintro e wo ⟨rfl,hbo⟩
  have HJwo:=Lib.hid (HJwn.out.below hbo HJwn.out.lt)
  have HB7wo:=Lib.hid (HB7wn.out.below hbo HB7wn.out.lt)
  have HDwo:=Lib.hid (HDwn.out.below hbo)
  have HBEwo:=Lib.hid (HBEwn.out.trans (hbo.mono HBEwn.out.size))
  clear hbo
  (try go_wp2_with fail)
  refine hK.out _ _ (⟨HJwo.out.cell (i:=1) rfl,HJwo.out.cell (i:=3) rfl,HJwo.out.cell (i:=6) rfl⟩) (fun hHeld2=> ?_)
  clear hK K hHeld
  have hHeld:=hHeld2
  clear hHeld2
  (try go_frame)
  refine hp 11 ?_
  refine wpAnyH_ready (rs:=[18]) (by kernel_rfl) (by simp) ?_
  refine AllReadyH.cons rfl (fun K hK=> ?_) AllReadyH.nil
  go_simp
  refine(oG db _ _ _).mono ?_
  rintro e wp ⟨⟨pf,pt,pd,rfl,hu⟩,hbp⟩
  have HJwp:=Lib.hid (HJwo.out.below hbp HJwo.out.lt)
  have HB7wp:=Lib.hid (HB7wo.out.below hbp HB7wo.out.lt)
  have HDwp:=Lib.hid (HDwo.out.below hbp)
  have HBEwp:=Lib.hid (HBEwo.out.trans (hbp.mono HBEwo.out.size))
  have HU:=Lib.hid hu
  clear hu hbp
  (try go_wp2_with fail)
  refine hK.out _ _ (⟨HJwp.out.cell (i:=1) rfl,HJwp.out.cell (i:=3) rfl,HJwp.out.cell (i:=6) rfl⟩) (fun hHeld2=> ?_)
  clear hK K hHeld
  have hHeld:=hHeld2
  clear hHeld2
  (try go_frame)
  refine wpAnyH_done (by kernel_rfl) ?_ _
  clear hHeld
  go_wp2_with fail
  refine jO rfl (enters_of Tryz.func248 (by kernel_rfl) rfl) ?_ ?_
  ·intro l W hW
   have hu0:=HU.out.below hW
   have e4:IntKind.i64.wrap (4+(t:Int))=(((4+t:Nat)):Int):=by rw[IntWalk.i64_in _ (by have:=HT.out;have:=HN.out;have:=HB.out;omega)];omega
   rw[e4]at hu0
   exact(mV _ db pf pt pd d (4+t) n W (HDwp.out.below hW) hu0 HT.out (by rw[HN.out.2];exact Nat.le_refl _) HDN.out HC.out HB.out HSH.out).mono (fun e W' h=>⟨⟨_,h.1⟩,h.2⟩)
  intro D wq hD hbq hkq
  have HB7wq:=Lib.hid (HB7wp.out.below hbq HB7wp.out.lt)
  have HBEwq:=Lib.hid (HBEwp.out.trans (hbq.mono HBEwp.out.size))
  have HLD:=Lib.hid (Nat.le_trans HBEwp.out.size hD)
  have HKQ:=Lib.hid hkq
  have c7:=HB7wq.out.cell (i:=0) rfl
  clear hD hbq hkq
  go_wp2_with fail
  go_loopw [77] (fun v wr=>v= .int .i64 0∧wq=wr) (fun _ _=>0)
  case atStart=>exact⟨rfl,rfl⟩
  case round=>
   obtain⟨rfl,rfl⟩:=hrel
   go_wp2_with fail
   refine⟨by simp, .inl ⟨_,_,rfl,run_takeDeferred HKQ.out, ?_⟩⟩
   refine⟨.int .i64 0, ?_,rfl,HBEwq.out.grown (grownBy_putObj' wq D (.deferred none)) HBEwq.out.size (fun k e=>by cases e;exact HLD.out)⟩
   simp[results,Tryz.f261,go_sem]
end Go.Proofs.YtngiibgdgenidaaGreat
