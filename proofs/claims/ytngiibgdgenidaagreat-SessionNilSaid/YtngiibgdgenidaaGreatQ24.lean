/- More laws of worlds that part in some blocks alone; operations behind a guard that is met. No program in sight. Walk of wire.says, with its closures (chapter 27): may what a message's kind says be? It is wiped. -/
import Derived.Test.YtngiibgdgenidaaGreatQ4
import Derived.Great.BuildSlice
import Derived.Test.YtngiibgdgenidaaGreatQ23
set_option linter.unusedSimpArgs false
set_option linter.unusedVariables false
set_option maxRecDepth 100000
set_option maxHeartbeats 4000000
namespace Go.Proofs.YtngiibgdgenidaaGreat
open Go Go.RowKit
section
variable {P:Program} {ops:Array Oper} {rest:List Oper} {o:Oper} {a:Act} {w:World} {Q:Exit→Act→World→Prop}
theorem zJ (hg:Region.wanted o (yielded ops a.tmps)=true) (h:∀K:Act→World→Prop,(∀a w,wpList P ops Q rest a w→K a w)→o.wp P a w K Q):wpList P ops Q (o::rest) a w:=
 wpList_step fun K hK=>by simp only[hg,if_true];exact h K hK
theorem dK (t e:TypeId) (len:Nat) (parts:Array (Nat×Operand)) (cells:List Value) (z:Value) (sz byt:Nat) (d:Option Tmp)
  (hu:P.underlying t=some (.slice e)) (hi:(P.info? e).map (fun i=>(i.zero,i.size,i.bytes))=some (some z,sz,byt)) (hsm:len*sz≤16777216) (hpos:0<len*sz)
  (hg:Region.wanted o (yielded ops a.tmps)=true) (ho:o.op= .buildSlice t len parts) (hd:o.dst=d)
  (hf:Instr.fill (fun i=>some (i*sz,sz)) ((Array.range (len*sz)).map (z.cells[· % z.cells.size]!)) (parts.map fun(i,x)=>(i,a.eval x)).toList=some cells.toArray)
  (h:∀g w',w.heap.size≤g→ac w' g cells e→Below g w w'→g<w'.heap.size→wpList P ops Q rest (a.put d (.slice (some ⟨g,0,none⟩) len len)) w'):wpList P ops Q (o::rest) a w:=by
 subst hd
 cases hie:P.info? e with
 |none=>simp[hie]at hi
 |some ie=>
  simp only[hie,Option.map_some,Option.some.injEq,Prod.mk.injEq]at hi
  obtain⟨h1,h2,_⟩:=hi
  subst h2
  exact zJ hg fun _ hK=>wp_buildSlice t e len parts ho cells.toArray ie z hu hie h1 (by omega) (by omega) hf (hK _ _ (h _ _ (Nat.le_refl _) (ac.new w cells e) ((Below.refl _ _).alloc (Nat.le_refl _) _) (by simp)))
end
theorem ab.past {S T:List Nat} {u v w:World} (h:ab S u v) (k:ab T v w) (hT:∀x,x∈T→x∈S∨u.heap.size≤x):ab S u w:=
 ⟨by rw[k.os,h.os],by rw[k.tape,h.tape],by rw[k.output,h.output],Nat.le_trans h.size k.size,fun i hi hn=>by
  rw[k.block i (Nat.lt_of_lt_of_le hi h.size) (fun hm=>(hT i hm).elim hn (fun h1=>by omega)),h.block i hi hn]⟩
structure bc (m:aa):Prop where
 up:m.told.up.length≤1048576
 left:m.told.left.length≤1048576
 here:m.told.here.hash.size≤1048576
 ahead:m.told.ahead.hash.size≤1048576
 sroot:m.sld.r.root.size≤1048576
 sname:m.sld.r.name.size≤1048576
 sepoch:Fits m.sld.r.epoch
 rroot:m.rcp.r.root.size≤1048576
 rname:m.rcp.r.name.size≤1048576
 repoch:Fits m.rcp.r.epoch
 rseq:Fits m.rcp.seq
theorem fu:∀(fn:Fn) (first cap:Array Value) (w:World),(Instr.makeFunc fn first cap).run Tryz.prog w= .ok (.func fn first cap) w:=fun _ _ _ _=>rfl
theorem only2 {x y:Nat} {u v w:World} (h:bH x u v) (k:bH y v w):ab [x,y] u w:=
 ⟨by rw[k.os,h.os],by rw[k.tape,h.tape],by rw[k.output,h.output],by rw[k.size,h.size];exact Nat.le_refl _,fun i _ hn=>by simp only[List.mem_cons,List.mem_nil_iff,or_false,not_or]at hn;rw[k.block i hn.2,h.block i hn.1]⟩
theorem my (po pm b:Nat) (q:Bool) (m:aa) (u l:Value) (w:World) (hO:ac w po [.bool q] 4) (hM:ac w pm [.pointer (some ⟨b,0,none⟩)] 195) (hB:ac w b (m.cells u l) 73) (hpm:po≠pm) (hpb:po≠b) (hmb:pm≠b):
  Calls Tryz.prog 218 #[.pointer (some ⟨po,0,none⟩), .pointer (some ⟨pm,0,none⟩)] w fun e w'=>
   e= .returned (.tuple #[])∧ac w' po [.bool (q&&bz m.epoch)] 4∧ac w' b (({m with epoch:=0}).cells u l) 73∧ac w' pm [.pointer (some ⟨b,0,none⟩)] 195∧ab [po,b] w w':=by
 have co:=hO.cell (i:=0) rfl
 have cm:=hM.cell (i:=0) rfl
 have cb:=hB.cell (i:=1) rfl
 cases q with
 |false=>
  go_enter Tryz.func218,Tryz.ntmps218
  go_wp2_with (first
   |((with_reducible refine aj 4 (.tmp 0) (.tmp 9) po 0 (.bool false) _ _ hO (by simp) (by kernel_rfl) rfl ?hgd ?ho ?hx ?hy ?_);(case hgd|ho|hx|hy=>rfl);(intro w1 B1 o1);have M1:=o1.blk hM hpm.symm;have BB1:=o1.blk hB hpb.symm;have m1:=M1.cell (i:=0) rfl)
   |((with_reducible refine aj 3 (.tmp 12) (.const (.int .i64 0)) b 1 (.int .i64 0) _ _ BB1 (Nat.le_of_ble_eq_true rfl) (by kernel_rfl) rfl ?hgd ?ho ?hx ?hy ?_);(case hgd|ho|hx|hy=>rfl);(intro w2 B2 o2))
   |fail)
  first|go_end0|((try simp only[Exit.inBlock,Exit.then]);refine bodyPost_ret (results_none rfl _ _ _) rfl ?_)
  exact⟨rfl,o2.blk B1 hpb,B2,o2.blk M1 hmb,only2 o1 o2⟩
 |true=>
  go_enter Tryz.func218,Tryz.ntmps218
  go_wp2_with (first
   |(go_at_call 219;refine(eV _ _ _).mono ?_;rintro ew ww ⟨rfl,rfl⟩)
   |((with_reducible refine aj 4 (.tmp 0) (.tmp 9) po 0 (.bool (dk m.epoch 4294967295)) _ _ hO (by simp) (by kernel_rfl) rfl ?hgd ?ho ?hx ?hy ?_);(case hgd|ho|hx|hy=>rfl);(intro w1 B1 o1);have M1:=o1.blk hM hpm.symm;have BB1:=o1.blk hB hpb.symm;have m1:=M1.cell (i:=0) rfl)
   |((with_reducible refine aj 3 (.tmp 12) (.const (.int .i64 0)) b 1 (.int .i64 0) _ _ BB1 (Nat.le_of_ble_eq_true rfl) (by kernel_rfl) rfl ?hgd ?ho ?hx ?hy ?_);(case hgd|ho|hx|hy=>rfl);(intro w2 B2 o2))
   |fail)
  first|go_end0|((try simp only[Exit.inBlock,Exit.then]);refine bodyPost_ret (results_none rfl _ _ _) rfl ?_)
  exact⟨rfl,o2.blk B1 hpb,B2,o2.blk M1 hmb,only2 o1 o2⟩
theorem mz (most:Int) (po pm b:Nat) (q:Bool) (m:aa) (u l:Value) (w:World) (hO:ac w po [.bool q] 4) (hM:ac w pm [.pointer (some ⟨b,0,none⟩)] 195) (hB:ac w b (m.cells u l) 73) (hpm:po≠pm) (hpb:po≠b) (hmb:pm≠b):
  Calls Tryz.prog 220 #[.int .i64 most, .pointer (some ⟨po,0,none⟩), .pointer (some ⟨pm,0,none⟩)] w fun e w'=>
   e= .returned (.tuple #[])∧ac w' po [.bool (q&&dk m.seq most)] 4∧ac w' b (({m with seq:=0}).cells u l) 73∧ac w' pm [.pointer (some ⟨b,0,none⟩)] 195∧ab [po,b] w w':=by
 have co:=hO.cell (i:=0) rfl
 have cm:=hM.cell (i:=0) rfl
 have cb:=hB.cell (i:=2) rfl
 cases q with
 |false=>
  go_enter Tryz.func220,Tryz.ntmps220
  go_wp2_with (first
   |((with_reducible refine aj 4 (.tmp 1) (.tmp 12) po 0 (.bool false) _ _ hO (by simp) (by kernel_rfl) rfl ?hgd ?ho ?hx ?hy ?_);(case hgd|ho|hx|hy=>rfl);(intro w1 B1 o1);have M1:=o1.blk hM hpm.symm;have BB1:=o1.blk hB hpb.symm;have m1:=M1.cell (i:=0) rfl)
   |((with_reducible refine aj 3 (.tmp 15) (.const (.int .i64 0)) b 2 (.int .i64 0) _ _ BB1 (Nat.le_of_ble_eq_true rfl) (by kernel_rfl) rfl ?hgd ?ho ?hx ?hy ?_);(case hgd|ho|hx|hy=>rfl);(intro w2 B2 o2))
   |fail)
  first|go_end0|((try simp only[Exit.inBlock,Exit.then]);refine bodyPost_ret (results_none rfl _ _ _) rfl ?_)
  exact⟨rfl,o2.blk B1 hpb,B2,o2.blk M1 hmb,only2 o1 o2⟩
 |true=>
  go_enter Tryz.func220,Tryz.ntmps220
  go_wp2_with (first
   |(go_at_call 219;refine(eV _ _ _).mono ?_;rintro ew ww ⟨rfl,rfl⟩)
   |((with_reducible refine aj 4 (.tmp 1) (.tmp 12) po 0 (.bool (dk m.seq most)) _ _ hO (by simp) (by kernel_rfl) rfl ?hgd ?ho ?hx ?hy ?_);(case hgd|ho|hx|hy=>rfl);(intro w1 B1 o1);have M1:=o1.blk hM hpm.symm;have BB1:=o1.blk hB hpb.symm;have m1:=M1.cell (i:=0) rfl)
   |((with_reducible refine aj 3 (.tmp 15) (.const (.int .i64 0)) b 2 (.int .i64 0) _ _ BB1 (Nat.le_of_ble_eq_true rfl) (by kernel_rfl) rfl ?hgd ?ho ?hx ?hy ?_);(case hgd|ho|hx|hy=>rfl);(intro w2 B2 o2))
   |fail)
  first|go_end0|((try simp only[Exit.inBlock,Exit.then]);refine bodyPost_ret (results_none rfl _ _ _) rfl ?_)
  exact⟨rfl,o2.blk B1 hpb,B2,o2.blk M1 hmb,only2 o1 o2⟩
def fx (m:aa) (b:Nat) (w:World) (e:Ending) (w':World):Prop:=
 e= .returned (.bool (aF m))∧∃u' l',ac w' b ((aJ m).cells u' l') 73∧ab [b] w w'∧((∃(p:Option Addr) (c:Nat),u'= .slice p (aJ m).told.up.length c)∧∃(p:Option Addr) (c:Nat),l'= .slice p (aJ m).told.left.length c)
theorem r7:∃(p:Option Addr) (c:Nat),(Value.slice none 0 0)= .slice p ([]:List ByteArray).length c:=⟨_,_,rfl⟩
theorem E2 (epoch seq:Int) (nonce tag last:ByteArray) (askE askL:Int) (sld:ax) (told:ar) (rcp:aH):aF ⟨4,epoch,seq,nonce,tag,last,askE,askL,sld,told,rcp⟩=(bz epoch&&dk seq 4096&&decide (last.size=32)):=by simp[aF,dk]
theorem zK (epoch seq:Int) (nonce tag last:ByteArray) (askE askL:Int) (sld:ax) (told:ar) (rcp:aH):aF ⟨6,epoch,seq,nonce,tag,last,askE,askL,sld,told,rcp⟩=(dk seq 4095&&aE sld.r&&decide (sld.tag.size=32)):=by simp[aF,dk]
def nY:List Value:=ar.zero.cells (.slice none 0 0) (.slice none 0 0)
theorem BK:∀v∈nY,v.oneCell'=true:=by decide
theorem BN:(Tryz.prog.info? 69).map (·.size)=some nY.length:=by kernel_rfl
theorem mA {t:ar} {u l:Value}:(Tryz.prog.info? 69).map (·.size)=some (t.cells u l).length:=by kernel_rfl
theorem FW (e l:Int):∀v∈([.int .i64 e, .int .i64 l]:List Value),v.oneCell'=true:=by
 intro v hv
 simp only[List.mem_cons,List.mem_nil_iff,or_false]at hv
 rcases hv with rfl|rfl<;>rfl
theorem aa.sldAt (m:aa) (u l:Value):m.cells u l=(m.cells u l).take 8++m.sld.cells++(m.cells u l).drop 17:=rfl
theorem aa.askAt (m:aa) (u l:Value):m.cells u l=(m.cells u l).take 6++[.int .i64 m.askE, .int .i64 m.askL]++(m.cells u l).drop 8:=rfl
theorem aa.toldAt (m:aa) (u l:Value):m.cells u l=(m.cells u l).take 17++m.told.cells u l++(m.cells u l).drop 30:=rfl
theorem G1 (b:Nat) (epoch seq:Int) (nonce tag last:ByteArray) (askE askL:Int) (sld:ax) (told:ar) (rcp:aH) (u l:Value) (w:World) (hB:ac w b ((⟨1,epoch,seq,nonce,tag,last,askE,askL,sld,told,rcp⟩:aa).cells u l) 73) (hu:aX w u told.up) (hl:aX w l told.left) (ht:bc (⟨1,epoch,seq,nonce,tag,last,askE,askL,sld,told,rcp⟩:aa)):
  Calls Tryz.prog 117 #[.pointer (some ⟨b,0,none⟩)] w (fx (⟨1,epoch,seq,nonce,tag,last,askE,askL,sld,told,rcp⟩:aa) b w):=by
 have hmf:=fu
 have hsu:=hu.shape
 have hsl:=hl.shape
 go_enter Tryz.func117,Tryz.ntmps117
 go_wp2_with (first
  |((with_reducible refine aw 195 (.tmp 0) (.pointer (some ⟨b,0,none⟩)) rfl (some 1) ?hgd ?ho ?hd ?hx ?_);(case hgd|ho|hd|hx=>rfl);(intro b1 w1 l1 B1 e1 z1);have BB1:=hB.below e1 (Nat.lt_of_lt_of_le hB.lt l1))
  |((with_reducible refine aG 4 (.bool false) (by intro w;kernel_rfl) rfl (some 3) ?hgd ?ho ?hd ?_);(case hgd|ho|hd=>rfl);(intro b2 w2 l2 B2 e2 z2);have M2:=B1.below e2 (Nat.lt_of_lt_of_le B1.lt l2);have BB2:=BB1.below e2 (Nat.lt_of_lt_of_le BB1.lt l2))
  |((with_reducible refine aj 4 (.tmp 3) (.const (.bool true)) b2 0 (.bool true) _ _ B2 (by simp) (by kernel_rfl) rfl ?hgd ?ho ?hx ?hy ?_);(case hgd|ho|hx|hy=>rfl);(intro w3 B3 o3);have M3:=o3.blk M2 (by have:=B1.lt;omega);have BB3:=o3.blk BB2 (by have:=BB1.lt;omega);have kO3:=B3.cell (i:=0) rfl;have kM3:=M3.cell (i:=0) rfl;have kB3:=BB3.cell (i:=0) rfl)
  |fail
  |fail)
 have h12:b2≠b1:=by have:=B1.lt;omega
 have h2b:b2≠b:=by have:=BB1.lt;omega
 have h1b:b1≠b:=by have:=hB.lt;omega
 have f1:w.heap.size≤b1:=l1
 have f2:w.heap.size≤b2:=by have:=e1.size;omega
 have T3:ab [b] w w3:=⟨by rw[o3.os,e2.os,e1.os],by rw[o3.tape,e2.tape,e1.tape],by rw[o3.output,e2.output,e1.output],by rw[o3.size];have:=e1.size;have:=e2.size;omega,fun k hk hn=>by rw[o3.block k (by omega),e2.block k (by have:=e1.size;omega),e1.block k (by omega)]⟩
 have O3:=B3
 clear B1 B2 B3 BB1 BB2 M2 e1 e2 l1 l2 z1 z2 o3
 go_ret
 refine⟨cL ?_,u,l, ?_,T3, ?_⟩
 ·simp[aF]
 ·have hw:aJ (⟨1,epoch,seq,nonce,tag,last,askE,askL,sld,told,rcp⟩:aa)=(⟨1,epoch,seq,nonce,tag,last,askE,askL,sld,told,rcp⟩:aa):=by simp[aJ]
  rw[hw]
  exact BB3
 ·have hw:aJ (⟨1,epoch,seq,nonce,tag,last,askE,askL,sld,told,rcp⟩:aa)=(⟨1,epoch,seq,nonce,tag,last,askE,askL,sld,told,rcp⟩:aa):=by simp[aJ]
  rw[hw]
  exact⟨hsu,hsl⟩
theorem G2 (b:Nat) (epoch seq:Int) (nonce tag last:ByteArray) (askE askL:Int) (sld:ax) (told:ar) (rcp:aH) (u l:Value) (w:World) (hB:ac w b ((⟨2,epoch,seq,nonce,tag,last,askE,askL,sld,told,rcp⟩:aa).cells u l) 73) (hu:aX w u told.up) (hl:aX w l told.left) (ht:bc (⟨2,epoch,seq,nonce,tag,last,askE,askL,sld,told,rcp⟩:aa)):
  Calls Tryz.prog 117 #[.pointer (some ⟨b,0,none⟩)] w (fx (⟨2,epoch,seq,nonce,tag,last,askE,askL,sld,told,rcp⟩:aa) b w):=by
 have hmf:=fu
 have hsu:=hu.shape
 have hsl:=hl.shape
 go_enter Tryz.func117,Tryz.ntmps117
 go_wp2_with (first
  |((with_reducible refine aw 195 (.tmp 0) (.pointer (some ⟨b,0,none⟩)) rfl (some 1) ?hgd ?ho ?hd ?hx ?_);(case hgd|ho|hd|hx=>rfl);(intro b1 w1 l1 B1 e1 z1);have BB1:=hB.below e1 (Nat.lt_of_lt_of_le hB.lt l1))
  |((with_reducible refine aG 4 (.bool false) (by intro w;kernel_rfl) rfl (some 3) ?hgd ?ho ?hd ?_);(case hgd|ho|hd=>rfl);(intro b2 w2 l2 B2 e2 z2);have M2:=B1.below e2 (Nat.lt_of_lt_of_le B1.lt l2);have BB2:=BB1.below e2 (Nat.lt_of_lt_of_le BB1.lt l2))
  |((with_reducible refine aj 4 (.tmp 3) (.const (.bool true)) b2 0 (.bool true) _ _ B2 (by simp) (by kernel_rfl) rfl ?hgd ?ho ?hx ?hy ?_);(case hgd|ho|hx|hy=>rfl);(intro w3 B3 o3);have M3:=o3.blk M2 (by have:=B1.lt;omega);have BB3:=o3.blk BB2 (by have:=BB1.lt;omega);have kO3:=B3.cell (i:=0) rfl;have kM3:=M3.cell (i:=0) rfl;have kB3:=BB3.cell (i:=0) rfl)
  |fail
  |fail)
 have h12:b2≠b1:=by have:=B1.lt;omega
 have h2b:b2≠b:=by have:=BB1.lt;omega
 have h1b:b1≠b:=by have:=hB.lt;omega
 have f1:w.heap.size≤b1:=l1
 have f2:w.heap.size≤b2:=by have:=e1.size;omega
 have T3:ab [b] w w3:=⟨by rw[o3.os,e2.os,e1.os],by rw[o3.tape,e2.tape,e1.tape],by rw[o3.output,e2.output,e1.output],by rw[o3.size];have:=e1.size;have:=e2.size;omega,fun k hk hn=>by rw[o3.block k (by omega),e2.block k (by have:=e1.size;omega),e1.block k (by omega)]⟩
 have O3:=B3
 clear B1 B2 B3 BB1 BB2 M2 e1 e2 l1 l2 z1 z2 o3
 refine(my b2 b1 b true (⟨2,epoch,seq,nonce,tag,last,askE,askL,sld,told,rcp⟩:aa) u l _ O3 M3 BB3 h12 h2b h1b).mono ?_
 rintro e w4 ⟨rfl,O4,BB4,M4,t4⟩
 have T4:=T3.past t4 (fun x hx=>by simp only[List.mem_cons,List.mem_nil_iff,or_false]at hx ⊢;omega)
 have kO4:=O4.cell (i:=0) rfl
 have kM4:=M4.cell (i:=0) rfl
 go_wp2_with fail
 go_ret
 refine⟨cL ?_,u,l, ?_,T4, ?_⟩
 ·simp[aF]
 ·have hw:aJ (⟨2,epoch,seq,nonce,tag,last,askE,askL,sld,told,rcp⟩:aa)=(⟨2,0,seq,nonce,tag,last,askE,askL,sld,told,rcp⟩:aa):=by simp[aJ]
  rw[hw]
  exact BB4
 ·have hw:aJ (⟨2,epoch,seq,nonce,tag,last,askE,askL,sld,told,rcp⟩:aa)=(⟨2,0,seq,nonce,tag,last,askE,askL,sld,told,rcp⟩:aa):=by simp[aJ]
  rw[hw]
  exact⟨hsu,hsl⟩
theorem G3 (b:Nat) (epoch seq:Int) (nonce tag last:ByteArray) (askE askL:Int) (sld:ax) (told:ar) (rcp:aH) (u l:Value) (w:World) (hB:ac w b ((⟨3,epoch,seq,nonce,tag,last,askE,askL,sld,told,rcp⟩:aa).cells u l) 73) (hu:aX w u told.up) (hl:aX w l told.left) (ht:bc (⟨3,epoch,seq,nonce,tag,last,askE,askL,sld,told,rcp⟩:aa)):
  Calls Tryz.prog 117 #[.pointer (some ⟨b,0,none⟩)] w (fx (⟨3,epoch,seq,nonce,tag,last,askE,askL,sld,told,rcp⟩:aa) b w):=by
 have hmf:=fu
 have hsu:=hu.shape
 have hsl:=hl.shape
 go_enter Tryz.func117,Tryz.ntmps117
 go_wp2_with (first
  |((with_reducible refine aw 195 (.tmp 0) (.pointer (some ⟨b,0,none⟩)) rfl (some 1) ?hgd ?ho ?hd ?hx ?_);(case hgd|ho|hd|hx=>rfl);(intro b1 w1 l1 B1 e1 z1);have BB1:=hB.below e1 (Nat.lt_of_lt_of_le hB.lt l1))
  |((with_reducible refine aG 4 (.bool false) (by intro w;kernel_rfl) rfl (some 3) ?hgd ?ho ?hd ?_);(case hgd|ho|hd=>rfl);(intro b2 w2 l2 B2 e2 z2);have M2:=B1.below e2 (Nat.lt_of_lt_of_le B1.lt l2);have BB2:=BB1.below e2 (Nat.lt_of_lt_of_le BB1.lt l2))
  |((with_reducible refine aj 4 (.tmp 3) (.const (.bool true)) b2 0 (.bool true) _ _ B2 (by simp) (by kernel_rfl) rfl ?hgd ?ho ?hx ?hy ?_);(case hgd|ho|hx|hy=>rfl);(intro w3 B3 o3);have M3:=o3.blk M2 (by have:=B1.lt;omega);have BB3:=o3.blk BB2 (by have:=BB1.lt;omega);have kO3:=B3.cell (i:=0) rfl;have kM3:=M3.cell (i:=0) rfl;have kB3:=BB3.cell (i:=0) rfl)
  |fail
  |fail)
 have h12:b2≠b1:=by have:=B1.lt;omega
 have h2b:b2≠b:=by have:=BB1.lt;omega
 have h1b:b1≠b:=by have:=hB.lt;omega
 have f1:w.heap.size≤b1:=l1
 have f2:w.heap.size≤b2:=by have:=e1.size;omega
 have T3:ab [b] w w3:=⟨by rw[o3.os,e2.os,e1.os],by rw[o3.tape,e2.tape,e1.tape],by rw[o3.output,e2.output,e1.output],by rw[o3.size];have:=e1.size;have:=e2.size;omega,fun k hk hn=>by rw[o3.block k (by omega),e2.block k (by have:=e1.size;omega),e1.block k (by omega)]⟩
 have O3:=B3
 clear B1 B2 B3 BB1 BB2 M2 e1 e2 l1 l2 z1 z2 o3
 refine(my b2 b1 b true (⟨3,epoch,seq,nonce,tag,last,askE,askL,sld,told,rcp⟩:aa) u l _ O3 M3 BB3 h12 h2b h1b).mono ?_
 rintro e w4 ⟨rfl,O4,BB4,M4,t4⟩
 have T4:=T3.past t4 (fun x hx=>by simp only[List.mem_cons,List.mem_nil_iff,or_false]at hx ⊢;omega)
 have kO4:=O4.cell (i:=0) rfl
 have kM4:=M4.cell (i:=0) rfl
 go_wp2_with fail
 go_ret
 refine⟨cL ?_,u,l, ?_,T4, ?_⟩
 ·simp[aF]
 ·have hw:aJ (⟨3,epoch,seq,nonce,tag,last,askE,askL,sld,told,rcp⟩:aa)=(⟨3,0,seq,nonce,tag,last,askE,askL,sld,told,rcp⟩:aa):=by simp[aJ]
  rw[hw]
  exact BB4
 ·have hw:aJ (⟨3,epoch,seq,nonce,tag,last,askE,askL,sld,told,rcp⟩:aa)=(⟨3,0,seq,nonce,tag,last,askE,askL,sld,told,rcp⟩:aa):=by simp[aJ]
  rw[hw]
  exact⟨hsu,hsl⟩
theorem G4 (b:Nat) (epoch seq:Int) (nonce tag last:ByteArray) (askE askL:Int) (sld:ax) (told:ar) (rcp:aH) (u l:Value) (w:World) (hB:ac w b ((⟨5,epoch,seq,nonce,tag,last,askE,askL,sld,told,rcp⟩:aa).cells u l) 73) (hu:aX w u told.up) (hl:aX w l told.left) (ht:bc (⟨5,epoch,seq,nonce,tag,last,askE,askL,sld,told,rcp⟩:aa)):
  Calls Tryz.prog 117 #[.pointer (some ⟨b,0,none⟩)] w (fx (⟨5,epoch,seq,nonce,tag,last,askE,askL,sld,told,rcp⟩:aa) b w):=by
 have hmf:=fu
 have hsu:=hu.shape
 have hsl:=hl.shape
 go_enter Tryz.func117,Tryz.ntmps117
 go_wp2_with (first
  |((with_reducible refine aw 195 (.tmp 0) (.pointer (some ⟨b,0,none⟩)) rfl (some 1) ?hgd ?ho ?hd ?hx ?_);(case hgd|ho|hd|hx=>rfl);(intro b1 w1 l1 B1 e1 z1);have BB1:=hB.below e1 (Nat.lt_of_lt_of_le hB.lt l1))
  |((with_reducible refine aG 4 (.bool false) (by intro w;kernel_rfl) rfl (some 3) ?hgd ?ho ?hd ?_);(case hgd|ho|hd=>rfl);(intro b2 w2 l2 B2 e2 z2);have M2:=B1.below e2 (Nat.lt_of_lt_of_le B1.lt l2);have BB2:=BB1.below e2 (Nat.lt_of_lt_of_le BB1.lt l2))
  |((with_reducible refine aj 4 (.tmp 3) (.const (.bool true)) b2 0 (.bool true) _ _ B2 (by simp) (by kernel_rfl) rfl ?hgd ?ho ?hx ?hy ?_);(case hgd|ho|hx|hy=>rfl);(intro w3 B3 o3);have M3:=o3.blk M2 (by have:=B1.lt;omega);have BB3:=o3.blk BB2 (by have:=BB1.lt;omega);have kO3:=B3.cell (i:=0) rfl;have kM3:=M3.cell (i:=0) rfl;have kB3:=BB3.cell (i:=0) rfl)
  |fail
  |fail)
 have h12:b2≠b1:=by have:=B1.lt;omega
 have h2b:b2≠b:=by have:=BB1.lt;omega
 have h1b:b1≠b:=by have:=hB.lt;omega
 have f1:w.heap.size≤b1:=l1
 have f2:w.heap.size≤b2:=by have:=e1.size;omega
 have T3:ab [b] w w3:=⟨by rw[o3.os,e2.os,e1.os],by rw[o3.tape,e2.tape,e1.tape],by rw[o3.output,e2.output,e1.output],by rw[o3.size];have:=e1.size;have:=e2.size;omega,fun k hk hn=>by rw[o3.block k (by omega),e2.block k (by have:=e1.size;omega),e1.block k (by omega)]⟩
 have O3:=B3
 clear B1 B2 B3 BB1 BB2 M2 e1 e2 l1 l2 z1 z2 o3
 refine(mz 4095 b2 b1 b true (⟨5,epoch,seq,nonce,tag,last,askE,askL,sld,told,rcp⟩:aa) u l _ O3 M3 BB3 h12 h2b h1b).mono ?_
 rintro e w4 ⟨rfl,O4,BB4,M4,t4⟩
 have T4:=T3.past t4 (fun x hx=>by simp only[List.mem_cons,List.mem_nil_iff,or_false]at hx ⊢;omega)
 have kO4:=O4.cell (i:=0) rfl
 have kM4:=M4.cell (i:=0) rfl
 go_wp2_with fail
 go_ret
 refine⟨cL ?_,u,l, ?_,T4, ?_⟩
 ·simp[aF,dk]
 ·have hw:aJ (⟨5,epoch,seq,nonce,tag,last,askE,askL,sld,told,rcp⟩:aa)=(⟨5,epoch,0,nonce,tag,last,askE,askL,sld,told,rcp⟩:aa):=by simp[aJ]
  rw[hw]
  exact BB4
 ·have hw:aJ (⟨5,epoch,seq,nonce,tag,last,askE,askL,sld,told,rcp⟩:aa)=(⟨5,epoch,0,nonce,tag,last,askE,askL,sld,told,rcp⟩:aa):=by simp[aJ]
  rw[hw]
  exact⟨hsu,hsl⟩
theorem G5 (b:Nat) (epoch seq:Int) (nonce tag last:ByteArray) (askE askL:Int) (sld:ax) (told:ar) (rcp:aH) (u l:Value) (w:World) (hB:ac w b ((⟨4,epoch,seq,nonce,tag,last,askE,askL,sld,told,rcp⟩:aa).cells u l) 73) (hu:aX w u told.up) (hl:aX w l told.left) (ht:bc (⟨4,epoch,seq,nonce,tag,last,askE,askL,sld,told,rcp⟩:aa)):
  Calls Tryz.prog 117 #[.pointer (some ⟨b,0,none⟩)] w (fx (⟨4,epoch,seq,nonce,tag,last,askE,askL,sld,told,rcp⟩:aa) b w):=by
 have hmf:=fu
 have hsu:=hu.shape
 have hsl:=hl.shape
 go_enter Tryz.func117,Tryz.ntmps117
 go_wp2_with (first
  |((with_reducible refine aw 195 (.tmp 0) (.pointer (some ⟨b,0,none⟩)) rfl (some 1) ?hgd ?ho ?hd ?hx ?_);(case hgd|ho|hd|hx=>rfl);(intro b1 w1 l1 B1 e1 z1);have BB1:=hB.below e1 (Nat.lt_of_lt_of_le hB.lt l1))
  |((with_reducible refine aG 4 (.bool false) (by intro w;kernel_rfl) rfl (some 3) ?hgd ?ho ?hd ?_);(case hgd|ho|hd=>rfl);(intro b2 w2 l2 B2 e2 z2);have M2:=B1.below e2 (Nat.lt_of_lt_of_le B1.lt l2);have BB2:=BB1.below e2 (Nat.lt_of_lt_of_le BB1.lt l2))
  |((with_reducible refine aj 4 (.tmp 3) (.const (.bool true)) b2 0 (.bool true) _ _ B2 (by simp) (by kernel_rfl) rfl ?hgd ?ho ?hx ?hy ?_);(case hgd|ho|hx|hy=>rfl);(intro w3 B3 o3);have M3:=o3.blk M2 (by have:=B1.lt;omega);have BB3:=o3.blk BB2 (by have:=BB1.lt;omega);have kO3:=B3.cell (i:=0) rfl;have kM3:=M3.cell (i:=0) rfl;have kB3:=BB3.cell (i:=0) rfl)
  |fail
  |fail)
 have h12:b2≠b1:=by have:=B1.lt;omega
 have h2b:b2≠b:=by have:=BB1.lt;omega
 have h1b:b1≠b:=by have:=hB.lt;omega
 have f1:w.heap.size≤b1:=l1
 have f2:w.heap.size≤b2:=by have:=e1.size;omega
 have T3:ab [b] w w3:=⟨by rw[o3.os,e2.os,e1.os],by rw[o3.tape,e2.tape,e1.tape],by rw[o3.output,e2.output,e1.output],by rw[o3.size];have:=e1.size;have:=e2.size;omega,fun k hk hn=>by rw[o3.block k (by omega),e2.block k (by have:=e1.size;omega),e1.block k (by omega)]⟩
 have O3:=B3
 clear B1 B2 B3 BB1 BB2 M2 e1 e2 l1 l2 z1 z2 o3
 refine(my b2 b1 b true (⟨4,epoch,seq,nonce,tag,last,askE,askL,sld,told,rcp⟩:aa) u l _ O3 M3 BB3 h12 h2b h1b).mono ?_
 rintro e w4 ⟨rfl,O4,BB4,M4,t4⟩
 have T4:=T3.past t4 (fun x hx=>by simp only[List.mem_cons,List.mem_nil_iff,or_false]at hx ⊢;omega)
 have kO4:=O4.cell (i:=0) rfl
 have kM4:=M4.cell (i:=0) rfl
 go_wp2_with fail
 refine(mz 4096 b2 b1 b (true&&bz epoch) (⟨4,0,seq,nonce,tag,last,askE,askL,sld,told,rcp⟩:aa) u l _ O4 M4 BB4 h12 h2b h1b).mono ?_
 rintro e w5 ⟨rfl,O5,BB5,M5,t5⟩
 have T5:=T4.past t5 (fun x hx=>by simp only[List.mem_cons,List.mem_nil_iff,or_false]at hx ⊢;omega)
 have kO5:=O5.cell (i:=0) rfl
 have kM5:=M5.cell (i:=0) rfl
 obtain⟨g,hg⟩:∃g,g=(true&&bz epoch&&dk seq 4096):=⟨_,rfl⟩
 have HG:=Lib.hid hg
 have O5':ac w5 b2 [.bool g] 4:=by rw[hg];exact O5
 have kO:w5.cell? ⟨b2,0,none⟩=some (.bool g):=O5'.cell rfl
 have kl:=BB5.cell (i:=5) rfl
 have HO:=Lib.hid O5';have HM5:=Lib.hid M5;have HBB:=Lib.hid BB5;have HT:=Lib.hid T5
 clear O5 O5' kO5 hg kO4 kM4 kO3 kM3 kB3 O4 M4 BB4 t4 t5 T4 O3 M3 BB3 T3 T5 M5 BB5
 cases g with
 |false=>
  go_wp2_with (first
   |((with_reducible refine aj 4 (.tmp 3) (.tmp 35) b2 0 (.bool false) _ _ HO.out (by simp) (by kernel_rfl) rfl ?hgd ?ho ?hx ?hy ?_);(case hgd|ho|hx|hy=>rfl);(intro w6 B6 o6);have M6:=o6.blk HM5.out h12.symm;have BB6:=o6.blk HBB.out h2b.symm;have kM6:=M6.cell (i:=0) rfl;have kO6:=B6.cell (i:=0) rfl)
   |((with_reducible refine aj 9 (.tmp 38) (.const (.string ⟨#[]⟩)) b 5 (.string ⟨#[]⟩) _ _ BB6 (Nat.le_of_ble_eq_true rfl) (by kernel_rfl) rfl ?hgd ?ho ?hx ?hy ?_);(case hgd|ho|hx|hy=>rfl);(intro w7 B7 o7);have kO7:=(o7.blk B6 h2b).cell (i:=0) rfl)
   |fail)
  go_ret
  refine⟨cL ?_,u,l, ?_,(HT.out.past (only2 o6 o7) (fun x hx=>by simp only[List.mem_cons,List.mem_nil_iff,or_false]at hx ⊢;omega)), ?_⟩
  ·have h:=HG.out;rw[Bool.true_and]at h;rw[E2,←h];rfl
  ·have hw:aJ (⟨4,epoch,seq,nonce,tag,last,askE,askL,sld,told,rcp⟩:aa)=(⟨4,0,0,nonce,tag,⟨#[]⟩,askE,askL,sld,told,rcp⟩:aa):=by simp[aJ]
   rw[hw]
   exact B7
  ·have hw:aJ (⟨4,epoch,seq,nonce,tag,last,askE,askL,sld,told,rcp⟩:aa)=(⟨4,0,0,nonce,tag,⟨#[]⟩,askE,askL,sld,told,rcp⟩:aa):=by simp[aJ]
   rw[hw]
   exact⟨hsu,hsl⟩
 |true=>
  go_wp2_with (first
   |((with_reducible refine dK 64 9 1 ?parts [.string last] (.string ⟨#[]⟩) 1 16 (some 33) Tryz.underlying64 gm (by omega) (by omega) ?hgd ?ho ?hd ?hf ?_);(case hgd|ho|hd=>rfl);(case hf=>kernel_rfl);(intro g6 w6 l6 B6 e6 z6);have O6:=HO.out.below e6 (Nat.lt_of_lt_of_le HO.out.lt l6);have M6:=HM5.out.below e6 (Nat.lt_of_lt_of_le HM5.out.lt l6);have BB6:=HBB.out.below e6 (Nat.lt_of_lt_of_le HBB.out.lt l6);have kM6:=M6.cell (i:=0) rfl;have T6:=HT.out.past (ab.of_below (S:=[]) e6 l6) (fun x hx=>by cases hx))
   |(go_at_call 118;refine(eG _ [last] _ (gI B6) (by simp)).mono ?_;rintro ew ww ⟨rfl,rfl⟩;rw[iG])
   |((with_reducible refine aj 4 (.tmp 3) (.tmp 35) b2 0 (.bool (decide (last.size=32))) _ _ O6 (by simp) (by kernel_rfl) rfl ?hgd ?ho ?hx ?hy ?_);(case hgd|ho|hx|hy=>rfl);(intro w7 B7 o7);have M7:=o7.blk M6 h12.symm;have BB7:=o7.blk BB6 h2b.symm;have kM7:=M7.cell (i:=0) rfl;have kO7:=B7.cell (i:=0) rfl)
   |((with_reducible refine aj 9 (.tmp 38) (.const (.string ⟨#[]⟩)) b 5 (.string ⟨#[]⟩) _ _ BB7 (Nat.le_of_ble_eq_true rfl) (by kernel_rfl) rfl ?hgd ?ho ?hx ?hy ?_);(case hgd|ho|hx|hy=>rfl);(intro w8 B8 o8);have kO8:=(o8.blk B7 h2b).cell (i:=0) rfl)
   |fail)
  go_ret
  refine⟨cL ?_,u,l, ?_,(T6.past (only2 o7 o8) (fun x hx=>by simp only[List.mem_cons,List.mem_nil_iff,or_false]at hx ⊢;omega)), ?_⟩
  ·have h:=HG.out;rw[Bool.true_and]at h;rw[E2,←h];rfl
  ·have hw:aJ (⟨4,epoch,seq,nonce,tag,last,askE,askL,sld,told,rcp⟩:aa)=(⟨4,0,0,nonce,tag,⟨#[]⟩,askE,askL,sld,told,rcp⟩:aa):=by simp[aJ]
   rw[hw]
   exact B8
  ·have hw:aJ (⟨4,epoch,seq,nonce,tag,last,askE,askL,sld,told,rcp⟩:aa)=(⟨4,0,0,nonce,tag,⟨#[]⟩,askE,askL,sld,told,rcp⟩:aa):=by simp[aJ]
   rw[hw]
   exact⟨hsu,hsl⟩
theorem G6 (b:Nat) (epoch seq:Int) (nonce tag last:ByteArray) (askE askL:Int) (sld:ax) (told:ar) (rcp:aH) (u l:Value) (w:World) (hB:ac w b ((⟨6,epoch,seq,nonce,tag,last,askE,askL,sld,told,rcp⟩:aa).cells u l) 73) (hu:aX w u told.up) (hl:aX w l told.left) (ht:bc (⟨6,epoch,seq,nonce,tag,last,askE,askL,sld,told,rcp⟩:aa)):
  Calls Tryz.prog 117 #[.pointer (some ⟨b,0,none⟩)] w (fx (⟨6,epoch,seq,nonce,tag,last,askE,askL,sld,told,rcp⟩:aa) b w):=by
 have hmf:=fu
 have hsu:=hu.shape
 have hsl:=hl.shape
 go_enter Tryz.func117,Tryz.ntmps117
 go_wp2_with (first
  |((with_reducible refine aw 195 (.tmp 0) (.pointer (some ⟨b,0,none⟩)) rfl (some 1) ?hgd ?ho ?hd ?hx ?_);(case hgd|ho|hd|hx=>rfl);(intro b1 w1 l1 B1 e1 z1);have BB1:=hB.below e1 (Nat.lt_of_lt_of_le hB.lt l1))
  |((with_reducible refine aG 4 (.bool false) (by intro w;kernel_rfl) rfl (some 3) ?hgd ?ho ?hd ?_);(case hgd|ho|hd=>rfl);(intro b2 w2 l2 B2 e2 z2);have M2:=B1.below e2 (Nat.lt_of_lt_of_le B1.lt l2);have BB2:=BB1.below e2 (Nat.lt_of_lt_of_le BB1.lt l2))
  |((with_reducible refine aj 4 (.tmp 3) (.const (.bool true)) b2 0 (.bool true) _ _ B2 (by simp) (by kernel_rfl) rfl ?hgd ?ho ?hx ?hy ?_);(case hgd|ho|hx|hy=>rfl);(intro w3 B3 o3);have M3:=o3.blk M2 (by have:=B1.lt;omega);have BB3:=o3.blk BB2 (by have:=BB1.lt;omega);have kO3:=B3.cell (i:=0) rfl;have kM3:=M3.cell (i:=0) rfl;have kB3:=BB3.cell (i:=0) rfl)
  |fail
  |fail)
 have h12:b2≠b1:=by have:=B1.lt;omega
 have h2b:b2≠b:=by have:=BB1.lt;omega
 have h1b:b1≠b:=by have:=hB.lt;omega
 have f1:w.heap.size≤b1:=l1
 have f2:w.heap.size≤b2:=by have:=e1.size;omega
 have T3:ab [b] w w3:=⟨by rw[o3.os,e2.os,e1.os],by rw[o3.tape,e2.tape,e1.tape],by rw[o3.output,e2.output,e1.output],by rw[o3.size];have:=e1.size;have:=e2.size;omega,fun k hk hn=>by rw[o3.block k (by omega),e2.block k (by have:=e1.size;omega),e1.block k (by omega)]⟩
 have O3:=B3
 clear B1 B2 B3 BB1 BB2 M2 e1 e2 l1 l2 z1 z2 o3
 refine(mz 4095 b2 b1 b true (⟨6,epoch,seq,nonce,tag,last,askE,askL,sld,told,rcp⟩:aa) u l _ O3 M3 BB3 h12 h2b h1b).mono ?_
 rintro e w4 ⟨rfl,O4,BB4,M4,t4⟩
 have T4:=T3.past t4 (fun x hx=>by simp only[List.mem_cons,List.mem_nil_iff,or_false]at hx ⊢;omega)
 have kO4:=O4.cell (i:=0) rfl
 have kM4:=M4.cell (i:=0) rfl
 obtain⟨g,hg⟩:∃g,g=(true&&dk seq 4095):=⟨_,rfl⟩
 have HG:=Lib.hid hg
 have O4':ac w4 b2 [.bool g] 4:=by rw[hg];exact O4
 have kO:w4.cell? ⟨b2,0,none⟩=some (.bool g):=O4'.cell rfl
 have RR:w4.rangeAt b 8 sld.r.cells:=(BB4.ext (aa.recAt (⟨6,epoch,0,nonce,tag,last,askE,askL,sld,told,rcp⟩:aa) u l)).part rfl
 have kt:=BB4.cell (i:=16) rfl
 have HO:=Lib.hid O4';have HM4:=Lib.hid M4;have HBB:=Lib.hid BB4;have HT:=Lib.hid T4
 clear O4 O4' kO4 hg kO3 kM3 kB3 t4 O3 M3 BB3 T3 T4 M4 BB4
 cases g with
 |false=>
  go_wp2_with (first
   |((with_reducible refine aj 4 (.tmp 3) (.tmp 65) b2 0 (.bool false) _ _ HO.out (by simp) (by kernel_rfl) rfl ?hgd ?ho ?hx ?hy ?_);(case hgd|ho|hx|hy=>rfl);(intro w5 B5 o5);have M5:=o5.blk HM4.out h12.symm;have BB5:=o5.blk HBB.out h2b.symm;have kM5:=M5.cell (i:=0) rfl;have kO5:=B5.cell (i:=0) rfl)
   |((with_reducible refine bG 61 (.tmp 69) (.tmp 67) b 8 ax.zero.cells _ _ BB5 (Nat.le_of_ble_eq_true rfl) kU (ax.cells_one _) ?hgd ?ho ?hx ?hy ?_);(case hgd|ho|hx|hy=>rfl);(intro w6 B6 o6);replace B6:ac w6 b ((⟨6,epoch,0,nonce,tag,last,askE,askL,ax.zero,told,rcp⟩:aa).cells u l) 73:=B6;have kO6:=(o6.blk B5 h2b).cell (i:=0) rfl)
   |fail)
  go_ret
  refine⟨cL ?_,u,l, ?_,(HT.out.past (only2 o5 o6) (fun x hx=>by simp only[List.mem_cons,List.mem_nil_iff,or_false]at hx ⊢;omega)), ?_⟩
  ·have h:=HG.out;rw[Bool.true_and]at h;rw[zK,←h];rfl
  ·have hw:aJ (⟨6,epoch,seq,nonce,tag,last,askE,askL,sld,told,rcp⟩:aa)=(⟨6,epoch,0,nonce,tag,last,askE,askL,ax.zero,told,rcp⟩:aa):=by simp[aJ]
   rw[hw]
   exact B6
  ·have hw:aJ (⟨6,epoch,seq,nonce,tag,last,askE,askL,sld,told,rcp⟩:aa)=(⟨6,epoch,0,nonce,tag,last,askE,askL,ax.zero,told,rcp⟩:aa):=by simp[aJ]
   rw[hw]
   exact⟨hsu,hsl⟩
 |true=>
  go_wp2_with (first
   |((with_reducible refine ag 59 (.tmp 52) b 8 sld.r.cells _ (some 53) (RR) Tryz.underlying59 rfl aS ?hg ?ho ?hds ?hx ?_);(case hg|ho|hds|hx=>rfl))
   |fail)
  refine(gx sld.r _ (Nat.le_trans ht.sname (by omega)) ht.sepoch).mono ?_
  rintro e w5 ⟨rfl,hb5⟩
  have O5:=HO.out.below hb5 HO.out.lt
  have M5:=HM4.out.below hb5 HM4.out.lt
  have BB5:=HBB.out.below hb5 HBB.out.lt
  have T5:=HT.out.past (ab.of_below (S:=[]) hb5 (Nat.le_refl _)) (fun x hx=>by cases hx)
  have kM5:=M5.cell (i:=0) rfl
  have kO5:=O5.cell (i:=0) rfl
  have kt5:=BB5.cell (i:=16) rfl
  clear hb5
  cases hok:aE sld.r with
  |false=>
   rw[nS hok]
   go_wp2_with (first
    |((with_reducible refine aj 4 (.tmp 3) (.tmp 65) b2 0 (.bool false) _ _ O5 (by simp) (by kernel_rfl) rfl ?hgd ?ho ?hx ?hy ?_);(case hgd|ho|hx|hy=>rfl);(intro w6 B6 o6);have M6:=o6.blk M5 h12.symm;have BB6:=o6.blk BB5 h2b.symm;have kM6:=M6.cell (i:=0) rfl;have kO6:=B6.cell (i:=0) rfl)
    |((with_reducible refine bG 61 (.tmp 69) (.tmp 67) b 8 ax.zero.cells _ _ BB6 (Nat.le_of_ble_eq_true rfl) kU (ax.cells_one _) ?hgd ?ho ?hx ?hy ?_);(case hgd|ho|hx|hy=>rfl);(intro w7 B7 o7);replace B7:ac w7 b ((⟨6,epoch,0,nonce,tag,last,askE,askL,ax.zero,told,rcp⟩:aa).cells u l) 73:=B7;have kO7:=(o7.blk B6 h2b).cell (i:=0) rfl)
    |fail)
   go_ret
   refine⟨cL ?_,u,l, ?_,(T5.past (only2 o6 o7) (fun x hx=>by simp only[List.mem_cons,List.mem_nil_iff,or_false]at hx ⊢;omega)), ?_⟩
   ·have h:=HG.out;rw[Bool.true_and]at h;rw[zK,←h,hok];rfl
   ·have hw:aJ (⟨6,epoch,seq,nonce,tag,last,askE,askL,sld,told,rcp⟩:aa)=(⟨6,epoch,0,nonce,tag,last,askE,askL,ax.zero,told,rcp⟩:aa):=by simp[aJ]
    rw[hw]
    exact B7
   ·have hw:aJ (⟨6,epoch,seq,nonce,tag,last,askE,askL,sld,told,rcp⟩:aa)=(⟨6,epoch,0,nonce,tag,last,askE,askL,ax.zero,told,rcp⟩:aa):=by simp[aJ]
    rw[hw]
    exact⟨hsu,hsl⟩
  |true=>
   rw[ku hok]
   go_wp2_with (first
    |((with_reducible refine dK 64 9 1 ?parts [.string sld.tag] (.string ⟨#[]⟩) 1 16 (some 63) Tryz.underlying64 gm (by omega) (by omega) ?hgd ?ho ?hd ?hf ?_);(case hgd|ho|hd=>rfl);(case hf=>kernel_rfl);(intro g6 w6 l6 B6 e6 z6);have O6:=O5.below e6 (Nat.lt_of_lt_of_le O5.lt l6);have M6:=M5.below e6 (Nat.lt_of_lt_of_le M5.lt l6);have BB6:=BB5.below e6 (Nat.lt_of_lt_of_le BB5.lt l6);have kM6:=M6.cell (i:=0) rfl;have T6:=T5.past (ab.of_below (S:=[]) e6 l6) (fun x hx=>by cases hx))
    |(go_at_call 118;refine(eG _ [sld.tag] _ (gI B6) (by simp)).mono ?_;rintro ew ww ⟨rfl,rfl⟩;rw[iG])
    |((with_reducible refine aj 4 (.tmp 3) (.tmp 65) b2 0 (.bool (decide (sld.tag.size=32))) _ _ O6 (by simp) (by kernel_rfl) rfl ?hgd ?ho ?hx ?hy ?_);(case hgd|ho|hx|hy=>rfl);(intro w7 B7 o7);have M7:=o7.blk M6 h12.symm;have BB7:=o7.blk BB6 h2b.symm;have kM7:=M7.cell (i:=0) rfl;have kO7:=B7.cell (i:=0) rfl)
    |((with_reducible refine bG 61 (.tmp 69) (.tmp 67) b 8 ax.zero.cells _ _ BB7 (Nat.le_of_ble_eq_true rfl) kU (ax.cells_one _) ?hgd ?ho ?hx ?hy ?_);(case hgd|ho|hx|hy=>rfl);(intro w8 B8 o8);replace B8:ac w8 b ((⟨6,epoch,0,nonce,tag,last,askE,askL,ax.zero,told,rcp⟩:aa).cells u l) 73:=B8;have kO8:=(o8.blk B7 h2b).cell (i:=0) rfl)
    |fail)
   go_ret
   refine⟨cL ?_,u,l, ?_,(T6.past (only2 o7 o8) (fun x hx=>by simp only[List.mem_cons,List.mem_nil_iff,or_false]at hx ⊢;omega)), ?_⟩
   ·have h:=HG.out;rw[Bool.true_and]at h;rw[zK,←h,hok];rfl
   ·have hw:aJ (⟨6,epoch,seq,nonce,tag,last,askE,askL,sld,told,rcp⟩:aa)=(⟨6,epoch,0,nonce,tag,last,askE,askL,ax.zero,told,rcp⟩:aa):=by simp[aJ]
    rw[hw]
    exact B8
   ·have hw:aJ (⟨6,epoch,seq,nonce,tag,last,askE,askL,sld,told,rcp⟩:aa)=(⟨6,epoch,0,nonce,tag,last,askE,askL,ax.zero,told,rcp⟩:aa):=by simp[aJ]
    rw[hw]
    exact⟨hsu,hsl⟩
theorem G9 (b:Nat) (epoch seq:Int) (nonce tag last:ByteArray) (askE askL:Int) (sld:ax) (told:ar) (rcp:aH) (u l:Value) (w:World) (hB:ac w b ((⟨7,epoch,seq,nonce,tag,last,askE,askL,sld,told,rcp⟩:aa).cells u l) 73) (hu:aX w u told.up) (hl:aX w l told.left) (ht:bc (⟨7,epoch,seq,nonce,tag,last,askE,askL,sld,told,rcp⟩:aa)):
  Calls Tryz.prog 117 #[.pointer (some ⟨b,0,none⟩)] w (fx (⟨7,epoch,seq,nonce,tag,last,askE,askL,sld,told,rcp⟩:aa) b w):=by
 have hmf:=fu
 have hsu:=hu.shape
 have hsl:=hl.shape
 go_enter Tryz.func117,Tryz.ntmps117
 go_wp2_with (first
  |((with_reducible refine aw 195 (.tmp 0) (.pointer (some ⟨b,0,none⟩)) rfl (some 1) ?hgd ?ho ?hd ?hx ?_);(case hgd|ho|hd|hx=>rfl);(intro b1 w1 l1 B1 e1 z1);have BB1:=hB.below e1 (Nat.lt_of_lt_of_le hB.lt l1))
  |((with_reducible refine aG 4 (.bool false) (by intro w;kernel_rfl) rfl (some 3) ?hgd ?ho ?hd ?_);(case hgd|ho|hd=>rfl);(intro b2 w2 l2 B2 e2 z2);have M2:=B1.below e2 (Nat.lt_of_lt_of_le B1.lt l2);have BB2:=BB1.below e2 (Nat.lt_of_lt_of_le BB1.lt l2))
  |((with_reducible refine aj 4 (.tmp 3) (.const (.bool true)) b2 0 (.bool true) _ _ B2 (by simp) (by kernel_rfl) rfl ?hgd ?ho ?hx ?hy ?_);(case hgd|ho|hx|hy=>rfl);(intro w3 B3 o3);have M3:=o3.blk M2 (by have:=B1.lt;omega);have BB3:=o3.blk BB2 (by have:=BB1.lt;omega);have kO3:=B3.cell (i:=0) rfl;have kM3:=M3.cell (i:=0) rfl;have kB3:=BB3.cell (i:=0) rfl)
  |((with_reducible refine ag 55 (.tmp 74) b 6 [.int .i64 askE, .int .i64 askL] _ (some 75) ((BB3.ext (aa.askAt (⟨7,epoch,seq,nonce,tag,last,askE,askL,sld,told,rcp⟩:aa) u l)).part (off:=6) rfl) Tryz.underlying55 rfl mw ?hg ?ho ?hds ?hx ?_);(case hg|ho|hds|hx=>rfl))
  |fail)
 have h12:b2≠b1:=by have:=B1.lt;omega
 have h2b:b2≠b:=by have:=BB1.lt;omega
 have h1b:b1≠b:=by have:=hB.lt;omega
 have f1:w.heap.size≤b1:=l1
 have f2:w.heap.size≤b2:=by have:=e1.size;omega
 have T3:ab [b] w w3:=⟨by rw[o3.os,e2.os,e1.os],by rw[o3.tape,e2.tape,e1.tape],by rw[o3.output,e2.output,e1.output],by rw[o3.size];have:=e1.size;have:=e2.size;omega,fun k hk hn=>by rw[o3.block k (by omega),e2.block k (by have:=e1.size;omega),e1.block k (by omega)]⟩
 have O3:=B3
 clear B1 B2 B3 BB1 BB2 M2 e1 e2 l1 l2 z1 z2 o3
 refine(mx askE askL _).mono ?_
 rintro e w4 ⟨rfl,hb4⟩
 have O4:=O3.below hb4 O3.lt
 have M4:=M3.below hb4 M3.lt
 have BB4:=BB3.below hb4 BB3.lt
 have T4:=T3.past (ab.of_below (S:=[]) hb4 (Nat.le_refl _)) (fun x hx=>by cases hx)
 have kM4:=M4.cell (i:=0) rfl
 have kO4:=O4.cell (i:=0) rfl
 clear hb4
 go_wp2_with (first
  |((with_reducible refine aj 4 (.tmp 3) (.tmp 76) b2 0 (.bool (dX askE askL)) _ _ O4 (by simp) (by kernel_rfl) rfl ?hgd ?ho ?hx ?hy ?_);(case hgd|ho|hx|hy=>rfl);(intro w5 B5 o5);have M5:=o5.blk M4 h12.symm;have BB5:=o5.blk BB4 h2b.symm;have kM5:=M5.cell (i:=0) rfl;have kO5:=B5.cell (i:=0) rfl)
  |((with_reducible refine bG 55 (.tmp 80) (.tmp 78) b 6 [.int .i64 0, .int .i64 0] _ _ BB5 (Nat.le_of_ble_eq_true rfl) mw (FW 0 0) ?hgd ?ho ?hx ?hy ?_);(case hgd|ho|hx|hy=>rfl);(intro w6 B6 o6);replace B6:ac w6 b ((⟨7,epoch,seq,nonce,tag,last,0,0,sld,told,rcp⟩:aa).cells u l) 73:=B6;have kO6:=(o6.blk B5 h2b).cell (i:=0) rfl)
  |fail)
 go_ret
 refine⟨cL ?_,u,l, ?_,(T4.past (only2 o5 o6) (fun x hx=>by simp only[List.mem_cons,List.mem_nil_iff,or_false]at hx ⊢;omega)), ?_⟩
 ·simp[aF]
 ·have hw:aJ (⟨7,epoch,seq,nonce,tag,last,askE,askL,sld,told,rcp⟩:aa)=(⟨7,epoch,seq,nonce,tag,last,0,0,sld,told,rcp⟩:aa):=by simp[aJ]
  rw[hw]
  exact B6
 ·have hw:aJ (⟨7,epoch,seq,nonce,tag,last,askE,askL,sld,told,rcp⟩:aa)=(⟨7,epoch,seq,nonce,tag,last,0,0,sld,told,rcp⟩:aa):=by simp[aJ]
  rw[hw]
  exact⟨hsu,hsl⟩
theorem Hh (b:Nat) (epoch seq:Int) (nonce tag last:ByteArray) (askE askL:Int) (sld:ax) (told:ar) (rcp:aH) (u l:Value) (w:World) (hB:ac w b ((⟨8,epoch,seq,nonce,tag,last,askE,askL,sld,told,rcp⟩:aa).cells u l) 73) (hu:aX w u told.up) (hl:aX w l told.left) (ht:bc (⟨8,epoch,seq,nonce,tag,last,askE,askL,sld,told,rcp⟩:aa)):
  Calls Tryz.prog 117 #[.pointer (some ⟨b,0,none⟩)] w (fx (⟨8,epoch,seq,nonce,tag,last,askE,askL,sld,told,rcp⟩:aa) b w):=by
 have hmf:=fu
 have hsu:=hu.shape
 have hsl:=hl.shape
 go_enter Tryz.func117,Tryz.ntmps117
 go_wp2_with (first
  |((with_reducible refine aw 195 (.tmp 0) (.pointer (some ⟨b,0,none⟩)) rfl (some 1) ?hgd ?ho ?hd ?hx ?_);(case hgd|ho|hd|hx=>rfl);(intro b1 w1 l1 B1 e1 z1);have BB1:=hB.below e1 (Nat.lt_of_lt_of_le hB.lt l1))
  |((with_reducible refine aG 4 (.bool false) (by intro w;kernel_rfl) rfl (some 3) ?hgd ?ho ?hd ?_);(case hgd|ho|hd=>rfl);(intro b2 w2 l2 B2 e2 z2);have M2:=B1.below e2 (Nat.lt_of_lt_of_le B1.lt l2);have BB2:=BB1.below e2 (Nat.lt_of_lt_of_le BB1.lt l2))
  |((with_reducible refine aj 4 (.tmp 3) (.const (.bool true)) b2 0 (.bool true) _ _ B2 (by simp) (by kernel_rfl) rfl ?hgd ?ho ?hx ?hy ?_);(case hgd|ho|hx|hy=>rfl);(intro w3 B3 o3);have M3:=o3.blk M2 (by have:=B1.lt;omega);have BB3:=o3.blk BB2 (by have:=BB1.lt;omega);have kO3:=B3.cell (i:=0) rfl;have kM3:=M3.cell (i:=0) rfl;have kB3:=BB3.cell (i:=0) rfl)
  |((with_reducible refine ag 69 (.tmp 85) b 17 (told.cells u l) _ (some 86) ((BB3.ext (aa.toldAt (⟨8,epoch,seq,nonce,tag,last,askE,askL,sld,told,rcp⟩:aa) u l)).part (off:=17) rfl) Tryz.underlying69 rfl mA ?hg ?ho ?hds ?hx ?_);(case hg|ho|hds|hx=>rfl))
  |fail)
 have h12:b2≠b1:=by have:=B1.lt;omega
 have h2b:b2≠b:=by have:=BB1.lt;omega
 have h1b:b1≠b:=by have:=hB.lt;omega
 have f1:w.heap.size≤b1:=l1
 have f2:w.heap.size≤b2:=by have:=e1.size;omega
 have T3:ab [b] w w3:=⟨by rw[o3.os,e2.os,e1.os],by rw[o3.tape,e2.tape,e1.tape],by rw[o3.output,e2.output,e1.output],by rw[o3.size];have:=e1.size;have:=e2.size;omega,fun k hk hn=>by rw[o3.block k (by omega),e2.block k (by have:=e1.size;omega),e1.block k (by omega)]⟩
 have O3:=B3
 have T3b:Below w.heap.size w w3:=⟨T3.os,T3.tape,T3.output,T3.size,fun k hk=>by rw[o3.block k (by omega),e2.block k (by have:=e1.size;omega),e1.block k (by omega)]⟩
 clear B1 B2 B3 BB1 BB2 M2 e1 e2 l1 l2 z1 z2 o3
 refine(xr told u l _ (hu.below T3b (Nat.le_refl _)) (hl.below T3b (Nat.le_refl _)) ht.up ht.left ht.here ht.ahead).mono ?_
 rintro e w4 ⟨rfl,hb4⟩
 have O4:=O3.below hb4 O3.lt
 have M4:=M3.below hb4 M3.lt
 have BB4:=BB3.below hb4 BB3.lt
 have T4:=T3.past (ab.of_below (S:=[]) hb4 (Nat.le_refl _)) (fun x hx=>by cases hx)
 have kM4:=M4.cell (i:=0) rfl
 have kO4:=O4.cell (i:=0) rfl
 clear hb4
 go_wp2_with (first
  |((with_reducible refine aj 4 (.tmp 3) (.tmp 87) b2 0 (.bool (dd told)) _ _ O4 (by simp) (by kernel_rfl) rfl ?hgd ?ho ?hx ?hy ?_);(case hgd|ho|hx|hy=>rfl);(intro w5 B5 o5);have M5:=o5.blk M4 h12.symm;have BB5:=o5.blk BB4 h2b.symm;have kM5:=M5.cell (i:=0) rfl;have kO5:=B5.cell (i:=0) rfl)
  |((with_reducible refine bG 69 (.tmp 91) (.tmp 89) b 17 nY _ _ BB5 (Nat.le_of_ble_eq_true rfl) BN BK ?hgd ?ho ?hx ?hy ?_);(case hgd|ho|hx|hy=>rfl);(intro w6 B6 o6);replace B6:ac w6 b ((⟨8,epoch,seq,nonce,tag,last,askE,askL,sld,ar.zero,rcp⟩:aa).cells (.slice none 0 0) (.slice none 0 0)) 73:=B6;have kO6:=(o6.blk B5 h2b).cell (i:=0) rfl)
  |fail)
 go_ret
 refine⟨cL ?_,(.slice none 0 0),(.slice none 0 0), ?_,(T4.past (only2 o5 o6) (fun x hx=>by simp only[List.mem_cons,List.mem_nil_iff,or_false]at hx ⊢;omega)), ?_⟩
 ·simp[aF]
 ·have hw:aJ (⟨8,epoch,seq,nonce,tag,last,askE,askL,sld,told,rcp⟩:aa)=(⟨8,epoch,seq,nonce,tag,last,askE,askL,sld,ar.zero,rcp⟩:aa):=by simp[aJ]
  rw[hw]
  exact B6
 ·have hw:aJ (⟨8,epoch,seq,nonce,tag,last,askE,askL,sld,told,rcp⟩:aa)=(⟨8,epoch,seq,nonce,tag,last,askE,askL,sld,ar.zero,rcp⟩:aa):=by simp[aJ]
  rw[hw]
  exact⟨r7,r7⟩
theorem FX (b:Nat) (epoch seq:Int) (nonce tag last:ByteArray) (askE askL:Int) (sld:ax) (told:ar) (rcp:aH) (u l:Value) (w:World) (hB:ac w b ((⟨10,epoch,seq,nonce,tag,last,askE,askL,sld,told,rcp⟩:aa).cells u l) 73) (hu:aX w u told.up) (hl:aX w l told.left) (ht:bc (⟨10,epoch,seq,nonce,tag,last,askE,askL,sld,told,rcp⟩:aa)):
  Calls Tryz.prog 117 #[.pointer (some ⟨b,0,none⟩)] w (fx (⟨10,epoch,seq,nonce,tag,last,askE,askL,sld,told,rcp⟩:aa) b w):=by
 have hmf:=fu
 have hsu:=hu.shape
 have hsl:=hl.shape
 go_enter Tryz.func117,Tryz.ntmps117
 go_wp2_with (first
  |((with_reducible refine aw 195 (.tmp 0) (.pointer (some ⟨b,0,none⟩)) rfl (some 1) ?hgd ?ho ?hd ?hx ?_);(case hgd|ho|hd|hx=>rfl);(intro b1 w1 l1 B1 e1 z1);have BB1:=hB.below e1 (Nat.lt_of_lt_of_le hB.lt l1))
  |((with_reducible refine aG 4 (.bool false) (by intro w;kernel_rfl) rfl (some 3) ?hgd ?ho ?hd ?_);(case hgd|ho|hd=>rfl);(intro b2 w2 l2 B2 e2 z2);have M2:=B1.below e2 (Nat.lt_of_lt_of_le B1.lt l2);have BB2:=BB1.below e2 (Nat.lt_of_lt_of_le BB1.lt l2))
  |((with_reducible refine aj 4 (.tmp 3) (.const (.bool true)) b2 0 (.bool true) _ _ B2 (by simp) (by kernel_rfl) rfl ?hgd ?ho ?hx ?hy ?_);(case hgd|ho|hx|hy=>rfl);(intro w3 B3 o3);have M3:=o3.blk M2 (by have:=B1.lt;omega);have BB3:=o3.blk BB2 (by have:=BB1.lt;omega);have kO3:=B3.cell (i:=0) rfl;have kM3:=M3.cell (i:=0) rfl;have kB3:=BB3.cell (i:=0) rfl)
  |((with_reducible refine ag 71 (.tmp 97) b 30 rcp.cells _ (some 98) ((BB3.ext (aa.rcpAt (⟨10,epoch,seq,nonce,tag,last,askE,askL,sld,told,rcp⟩:aa) u l)).part (off:=30) rfl) Tryz.underlying71 rfl bI ?hg ?ho ?hds ?hx ?_);(case hg|ho|hds|hx=>rfl))
  |fail)
 have h12:b2≠b1:=by have:=B1.lt;omega
 have h2b:b2≠b:=by have:=BB1.lt;omega
 have h1b:b1≠b:=by have:=hB.lt;omega
 have f1:w.heap.size≤b1:=l1
 have f2:w.heap.size≤b2:=by have:=e1.size;omega
 have T3:ab [b] w w3:=⟨by rw[o3.os,e2.os,e1.os],by rw[o3.tape,e2.tape,e1.tape],by rw[o3.output,e2.output,e1.output],by rw[o3.size];have:=e1.size;have:=e2.size;omega,fun k hk hn=>by rw[o3.block k (by omega),e2.block k (by have:=e1.size;omega),e1.block k (by omega)]⟩
 have O3:=B3
 clear B1 B2 B3 BB1 BB2 M2 e1 e2 l1 l2 z1 z2 o3
 refine(oP rcp _ ht.rroot ht.rname ht.repoch ht.rseq).mono ?_
 rintro e w4 ⟨he,hb4⟩
 have O4:=O3.below hb4 O3.lt
 have M4:=M3.below hb4 M3.lt
 have BB4:=BB3.below hb4 BB3.lt
 have T4:=T3.past (ab.of_below (S:=[]) hb4 (Nat.le_refl _)) (fun x hx=>by cases hx)
 have kM4:=M4.cell (i:=0) rfl
 have kO4:=O4.cell (i:=0) rfl
 clear hb4
 obtain⟨r,f,rfl,hf⟩:∃r f,e= .returned (.tuple #[.string r, .int .i64 f])∧((bX rcp=true∧f=0)∨(bX rcp=false∧f=2)):=by
  rcases he with⟨h,r,h1,_⟩|⟨h,h1⟩
  ·exact⟨r,0,h1, .inl ⟨h,rfl⟩⟩
  ·exact⟨_,2,h1, .inr ⟨by cases hh:bX rcp<;>simp_all,rfl⟩⟩
 clear he
 rcases hf with⟨hok,rfl⟩|⟨hok,rfl⟩
 ·go_wp2_with (first
   |((with_reducible refine aj 4 (.tmp 3) (.tmp 103) b2 0 (.bool true) _ _ O4 (by simp) (by kernel_rfl) rfl ?hgd ?ho ?hx ?hy ?_);(case hgd|ho|hx|hy=>rfl);(intro w5 B5 o5);have M5:=o5.blk M4 h12.symm;have BB5:=o5.blk BB4 h2b.symm;have kM5:=M5.cell (i:=0) rfl;have kO5:=B5.cell (i:=0) rfl)
   |((with_reducible refine bG 71 (.tmp 107) (.tmp 105) b 30 aH.zero.cells _ _ BB5 (Nat.le_of_ble_eq_true rfl) bI (aH.cells_one _) ?hgd ?ho ?hx ?hy ?_);(case hgd|ho|hx|hy=>rfl);(intro w6 B6 o6);replace B6:ac w6 b ((⟨10,epoch,seq,nonce,tag,last,askE,askL,sld,told,aH.zero⟩:aa).cells u l) 73:=B6;have kO6:=(o6.blk B5 h2b).cell (i:=0) rfl)
   |fail)
  go_ret
  refine⟨cL ?_,u,l, ?_,(T4.past (only2 o5 o6) (fun x hx=>by simp only[List.mem_cons,List.mem_nil_iff,or_false]at hx ⊢;omega)), ?_⟩
  ·simp[aF,hok]
  ·have hw:aJ (⟨10,epoch,seq,nonce,tag,last,askE,askL,sld,told,rcp⟩:aa)=(⟨10,epoch,seq,nonce,tag,last,askE,askL,sld,told,aH.zero⟩:aa):=by simp[aJ]
   rw[hw]
   exact B6
  ·have hw:aJ (⟨10,epoch,seq,nonce,tag,last,askE,askL,sld,told,rcp⟩:aa)=(⟨10,epoch,seq,nonce,tag,last,askE,askL,sld,told,aH.zero⟩:aa):=by simp[aJ]
   rw[hw]
   exact⟨hsu,hsl⟩
 ·go_wp2_with (first
   |((with_reducible refine aj 4 (.tmp 3) (.tmp 103) b2 0 (.bool false) _ _ O4 (by simp) (by kernel_rfl) rfl ?hgd ?ho ?hx ?hy ?_);(case hgd|ho|hx|hy=>rfl);(intro w5 B5 o5);have M5:=o5.blk M4 h12.symm;have BB5:=o5.blk BB4 h2b.symm;have kM5:=M5.cell (i:=0) rfl;have kO5:=B5.cell (i:=0) rfl)
   |((with_reducible refine bG 71 (.tmp 107) (.tmp 105) b 30 aH.zero.cells _ _ BB5 (Nat.le_of_ble_eq_true rfl) bI (aH.cells_one _) ?hgd ?ho ?hx ?hy ?_);(case hgd|ho|hx|hy=>rfl);(intro w6 B6 o6);replace B6:ac w6 b ((⟨10,epoch,seq,nonce,tag,last,askE,askL,sld,told,aH.zero⟩:aa).cells u l) 73:=B6;have kO6:=(o6.blk B5 h2b).cell (i:=0) rfl)
   |fail)
  go_ret
  refine⟨cL ?_,u,l, ?_,(T4.past (only2 o5 o6) (fun x hx=>by simp only[List.mem_cons,List.mem_nil_iff,or_false]at hx ⊢;omega)), ?_⟩
  ·simp[aF,hok]
  ·have hw:aJ (⟨10,epoch,seq,nonce,tag,last,askE,askL,sld,told,rcp⟩:aa)=(⟨10,epoch,seq,nonce,tag,last,askE,askL,sld,told,aH.zero⟩:aa):=by simp[aJ]
   rw[hw]
   exact B6
  ·have hw:aJ (⟨10,epoch,seq,nonce,tag,last,askE,askL,sld,told,rcp⟩:aa)=(⟨10,epoch,seq,nonce,tag,last,askE,askL,sld,told,aH.zero⟩:aa):=by simp[aJ]
   rw[hw]
   exact⟨hsu,hsl⟩
theorem Hi (b:Nat) (kind:Int) (k1:kind≠1) (k2:kind≠2) (k3:kind≠3) (k4:kind≠4) (k5:kind≠5) (k6:kind≠6) (k7:kind≠7) (k8:kind≠8) (k10:kind≠10) (epoch seq:Int) (nonce tag last:ByteArray) (askE askL:Int) (sld:ax) (told:ar) (rcp:aH) (u l:Value) (w:World) (hB:ac w b ((⟨kind,epoch,seq,nonce,tag,last,askE,askL,sld,told,rcp⟩:aa).cells u l) 73) (hu:aX w u told.up) (hl:aX w l told.left) (ht:bc (⟨kind,epoch,seq,nonce,tag,last,askE,askL,sld,told,rcp⟩:aa)):
  Calls Tryz.prog 117 #[.pointer (some ⟨b,0,none⟩)] w (fx (⟨kind,epoch,seq,nonce,tag,last,askE,askL,sld,told,rcp⟩:aa) b w):=by
 have hmf:=fu
 have hsu:=hu.shape
 have hsl:=hl.shape
 go_enter Tryz.func117,Tryz.ntmps117
 go_wp2_with (first
  |((with_reducible refine aw 195 (.tmp 0) (.pointer (some ⟨b,0,none⟩)) rfl (some 1) ?hgd ?ho ?hd ?hx ?_);(case hgd|ho|hd|hx=>rfl);(intro b1 w1 l1 B1 e1 z1);have BB1:=hB.below e1 (Nat.lt_of_lt_of_le hB.lt l1))
  |((with_reducible refine aG 4 (.bool false) (by intro w;kernel_rfl) rfl (some 3) ?hgd ?ho ?hd ?_);(case hgd|ho|hd=>rfl);(intro b2 w2 l2 B2 e2 z2);have M2:=B1.below e2 (Nat.lt_of_lt_of_le B1.lt l2);have BB2:=BB1.below e2 (Nat.lt_of_lt_of_le BB1.lt l2))
  |((with_reducible refine aj 4 (.tmp 3) (.const (.bool true)) b2 0 (.bool true) _ _ B2 (by simp) (by kernel_rfl) rfl ?hgd ?ho ?hx ?hy ?_);(case hgd|ho|hx|hy=>rfl);(intro w3 B3 o3);have M3:=o3.blk M2 (by have:=B1.lt;omega);have BB3:=o3.blk BB2 (by have:=BB1.lt;omega);have kO3:=B3.cell (i:=0) rfl;have kM3:=M3.cell (i:=0) rfl;have kB3:=BB3.cell (i:=0) rfl)
  |((with_reducible refine aj 4 (.tmp 3) (.const (.bool false)) b2 0 (.bool false) _ _ B3 (by simp) (by kernel_rfl) rfl ?hgd ?ho ?hx ?hy ?_);(case hgd|ho|hx|hy=>rfl);(intro w4 B4 o4);have BB4:=o4.blk BB3 (by have:=BB1.lt;omega);have kO4:=B4.cell (i:=0) rfl)
  |fail)
 have h12:b2≠b1:=by have:=B1.lt;omega
 have h2b:b2≠b:=by have:=BB1.lt;omega
 have h1b:b1≠b:=by have:=hB.lt;omega
 have f1:w.heap.size≤b1:=l1
 have f2:w.heap.size≤b2:=by have:=e1.size;omega
 have T3:ab [b] w w3:=⟨by rw[o3.os,e2.os,e1.os],by rw[o3.tape,e2.tape,e1.tape],by rw[o3.output,e2.output,e1.output],by rw[o3.size];have:=e1.size;have:=e2.size;omega,fun k hk hn=>by rw[o3.block k (by omega),e2.block k (by have:=e1.size;omega),e1.block k (by omega)]⟩
 have O3:=B3
 clear B1 B2 B3 BB1 BB2 M2 e1 e2 l1 l2 z1 z2 o3
 go_ret
 refine⟨cL ?_,u,l, ?_,T3.past (o4.turned (S:=[b2]) (by simp)) (fun x hx=>by simp only[List.mem_cons,List.mem_nil_iff,or_false]at hx ⊢;omega), ?_⟩
 ·simp[aF, *]
 ·have hw:aJ (⟨kind,epoch,seq,nonce,tag,last,askE,askL,sld,told,rcp⟩:aa)=(⟨kind,epoch,seq,nonce,tag,last,askE,askL,sld,told,rcp⟩:aa):=by simp[aJ, *]
  rw[hw]
  exact BB4
 ·have hw:aJ (⟨kind,epoch,seq,nonce,tag,last,askE,askL,sld,told,rcp⟩:aa)=(⟨kind,epoch,seq,nonce,tag,last,askE,askL,sld,told,rcp⟩:aa):=by simp[aJ, *]
  rw[hw]
  exact⟨hsu,hsl⟩
theorem BO (b:Nat) (m:aa) (u l:Value) (w:World) (hB:ac w b (m.cells u l) 73) (hu:aX w u m.told.up) (hl:aX w l m.told.left) (ht:bc m):
  Calls Tryz.prog 117 #[.pointer (some ⟨b,0,none⟩)] w (fx m b w):=by
 obtain⟨kind,epoch,seq,nonce,tag,last,askE,askL,sld,told,rcp⟩:=m
 by_cases k1:kind=1
 ·subst k1
  exact G1 b epoch seq nonce tag last askE askL sld told rcp u l w hB hu hl ht
 by_cases k2:kind=2
 ·subst k2
  exact G2 b epoch seq nonce tag last askE askL sld told rcp u l w hB hu hl ht
 by_cases k3:kind=3
 ·subst k3
  exact G3 b epoch seq nonce tag last askE askL sld told rcp u l w hB hu hl ht
 by_cases k4:kind=4
 ·subst k4
  exact G5 b epoch seq nonce tag last askE askL sld told rcp u l w hB hu hl ht
 by_cases k5:kind=5
 ·subst k5
  exact G4 b epoch seq nonce tag last askE askL sld told rcp u l w hB hu hl ht
 by_cases k6:kind=6
 ·subst k6
  exact G6 b epoch seq nonce tag last askE askL sld told rcp u l w hB hu hl ht
 by_cases k7:kind=7
 ·subst k7
  exact G9 b epoch seq nonce tag last askE askL sld told rcp u l w hB hu hl ht
 by_cases k8:kind=8
 ·subst k8
  exact Hh b epoch seq nonce tag last askE askL sld told rcp u l w hB hu hl ht
 by_cases k10:kind=10
 ·subst k10
  exact FX b epoch seq nonce tag last askE askL sld told rcp u l w hB hu hl ht
 exact Hi b kind k1 k2 k3 k4 k5 k6 k7 k8 k10 epoch seq nonce tag last askE askL sld told rcp u l w hB hu hl ht
def nZ (t:ar):Bool:=decide (t.askE=0∧t.askL=0)&& !t.gone&&decide (t.slot=0)&&decide (t.cipher=⟨#[]⟩)&& !t.found&&decide (t.at_=0)&&decide (t.here=aN.zero)&&decide (t.ahead=aN.zero)&&decide (t.up.length+t.left.length=0)
theorem Eg (t:ar):nZ t=decide (t=ar.zero):=by
 obtain⟨e,l,g,f,a,h,ah,u,le,s,c⟩:=t
 rw[Bool.eq_iff_iff]
 simp only[nZ,ar.zero,Bool.and_eq_true,Bool.not_eq_true',decide_eq_true_eq,ar.mk.injEq]
 constructor
 ·rintro⟨⟨⟨⟨⟨⟨⟨⟨⟨h1,h2⟩,h3⟩,h4⟩,h5⟩,h6⟩,h7⟩,h8⟩,h9⟩,h10⟩
  have hu:u.length=0:=by omega
  have hl:le.length=0:=by omega
  exact⟨h1,h2,h3,h6,h7,h8,h9,List.eq_nil_of_length_eq_zero hu,List.eq_nil_of_length_eq_zero hl,h4,h5⟩
 ·rintro⟨h1,h2,h3,h6,h7,h8,h9,rfl,rfl,h4,h5⟩
  exact⟨⟨⟨⟨⟨⟨⟨⟨⟨h1,h2⟩,h3⟩,h4⟩,h5⟩,h6⟩,h7⟩,h8⟩,h9⟩,rfl⟩
def jZ (y:aa):Bool:=nZ y.told&&decide (y.epoch=0)&&decide (y.seq=0)&&decide (y.nonce=⟨#[]⟩)&&decide (y.tag=⟨#[]⟩)&&decide (y.last=⟨#[]⟩)&&decide (y.askE=0∧y.askL=0)&&decide (y.sld=ax.zero)&&decide (y.rcp=aH.zero)
def strip (m:aa):aa:={aJ m with nonce:=if m.kind=10 then m.nonce else⟨#[]⟩,tag:=if al m.kind then⟨#[]⟩else m.tag}
theorem BP (y:aa):jZ y=true↔(y.told=ar.zero∧y.epoch=0∧y.seq=0∧y.nonce=⟨#[]⟩∧y.tag=⟨#[]⟩∧y.last=⟨#[]⟩∧(y.askE=0∧y.askL=0)∧y.sld=ax.zero∧y.rcp=aH.zero):=by
 simp only[jZ,Eg,Bool.and_eq_true,decide_eq_true_eq,and_assoc]
theorem xt (m:aa):dF (aJ m)=jZ (strip m):=by
 rw[Bool.eq_iff_iff,BP]
 constructor
 ·intro h
  obtain⟨h1,h2,h3,h4,h5,h6,h7,h8,h9⟩:=oR h
  refine⟨h1,h2,h3, ?_, ?_,h6,h7,h8,h9⟩
  ·show(if m.kind=10 then m.nonce else⟨#[]⟩)= _
   split
   ·next h=>exact h4 h
   ·rfl
  ·show(if al m.kind then⟨#[]⟩else m.tag)= _
   split
   ·rfl
   ·next h=>exact h5 (by have h2:¬al m.kind=true:=h;show al m.kind=false;simpa using h2)
 ·rintro⟨h1,h2,h3,h4,h5,h6,h7,h8,h9⟩
  have h4':(if m.kind=10 then m.nonce else⟨#[]⟩)=⟨#[]⟩:=h4
  have h5':(if al m.kind then⟨#[]⟩else m.tag)=⟨#[]⟩:=h5
  have h1':(aJ m).told=ar.zero:=h1
  have h2':(aJ m).epoch=0:=h2
  have h3':(aJ m).seq=0:=h3
  have h6':(aJ m).last=⟨#[]⟩:=h6
  have h7':(aJ m).askE=0∧(aJ m).askL=0:=h7
  have h8':(aJ m).sld=ax.zero:=h8
  have h9':(aJ m).rcp=aH.zero:=h9
  simp only[dF,Bool.and_eq_true,Bool.or_eq_true,decide_eq_true_eq]
  refine⟨⟨⟨⟨⟨⟨⟨⟨h1',h2'⟩,h3'⟩, ?_⟩, ?_⟩,h6'⟩,h7'⟩,h8'⟩,h9'⟩
  ·by_cases h:m.kind=10
   ·rw[if_pos h]at h4';exact .inr h4'
   ·exact .inl h
  ·by_cases h:al m.kind=true
   ·exact .inl h
   ·rw[if_neg h]at h5';exact .inr h5'
def iS (m:aa):Int:=if aM m then 0 else 2
theorem yM {a b:Int} (h:a=b):Ending.returned (Value.int .i64 a)= .returned (.int .i64 b):=by rw[h]
theorem BQ {m:aa} {q:Bool} (h:aM m=q):iS m=if q then 0 else 2:=by unfold iS;rw[h]
theorem Eh (w:World):Sem.run Tryz.prog (zeroValue 69) w= .ok (.agg nY.toArray) w:=by kernel_rfl
theorem zL {t:ar} {u l:Value} {n m:Nat} (hu:∃(p:Option Addr) (c:Nat),u= .slice p n c) (hl:∃(p:Option Addr) (c:Nat),l= .slice p m c):∀v∈t.cells u l,v.oneCell'=true:=by
 obtain⟨p,c,rfl⟩:=hu
 obtain⟨p',c',rfl⟩:=hl
 intro v hv
 simp only[ar.cells,List.mem_cons,List.mem_nil_iff,or_false]at hv
 rcases hv with rfl|rfl|rfl|rfl|rfl|rfl|rfl|rfl|rfl|rfl|rfl|rfl|rfl<;>rfl
theorem ar.askAt (t:ar) (u l:Value):t.cells u l=[]++[.int .i64 t.askE, .int .i64 t.askL]++(t.cells u l).drop 2:=rfl
theorem ar.hereAt (t:ar) (u l:Value):t.cells u l=(t.cells u l).take 5++t.here.cells++(t.cells u l).drop 7:=rfl
theorem ar.aheadAt (t:ar) (u l:Value):t.cells u l=(t.cells u l).take 7++t.ahead.cells++(t.cells u l).drop 9:=rfl
theorem dt (m:aa) (u l:Value) (w:World) (hu:aX w u m.told.up) (hl:aX w l m.told.left) (ht:bc m):
  Calls Tryz.prog 61 #[m.v u l] w fun e w'=>e= .returned (.int .i64 (iS m))∧Below w.heap.size w w':=by
 go_enter Tryz.func61,Tryz.ntmps61
 go_wp2_with ((with_reducible refine ai 73 (.tmp 0) (m.cells u l) (some 1) ?hgd ?ho ?hd ?hx ?_);(case hgd|ho|hd|hx=>rfl);(intro b w0 l0 B0 e0 z0))
 have hb0:Below w.heap.size w w0:=e0.mono l0
 refine(BO b m u l _ B0 (hu.below hb0 (Nat.le_refl _)) (hl.below hb0 (Nat.le_refl _)) ht).mono ?_
 rintro e w1 ⟨rfl,u',l',B1,T1,hsu,hsl⟩
 have HB1:Below w.heap.size w w1:=T1.below hb0 (fun x hx=>by simp only[List.mem_cons,List.mem_nil_iff,or_false]at hx;omega) hb0.size
 clear T1 B0 e0 z0 hb0 hu hl
 cases hs:aF m with
 |false=>
  have HC:=Lib.hid (show iS m=2 by unfold iS aM;rw[hs];rfl)
  clear hs
  go_wp2_with fail
  go_ret
  exact⟨by rw[HC.out];rfl,HB1⟩
 |true=>
  obtain⟨nu,hnu⟩:∃n,n=(aJ m).told.up.length:=⟨_,rfl⟩
  obtain⟨nl,hnl⟩:∃n,n=(aJ m).told.left.length:=⟨_,rfl⟩
  have hul:nu≤1048576:=by
   rw[hnu];have:=ht.up;unfold aJ;simp only;split
   ·exact Nat.zero_le _
   ·exact this
  have hll:nl≤1048576:=by
   rw[hnl];have:=ht.left;unfold aJ;simp only;split
   ·exact Nat.zero_le _
   ·exact this
  rw[←hnu]at hsu
  rw[←hnl]at hsl
  obtain⟨pu,cu,hu1⟩:=hsu
  obtain⟨pl,cl,hl1⟩:=hsl
  have hsu:∃(p:Option Addr) (c:Nat),u'= .slice p nu c:=⟨pu,cu,hu1⟩
  have hsl:∃(p:Option Addr) (c:Nat),l'= .slice p nl c:=⟨pl,cl,hl1⟩
  have HSU:=Lib.hid hu1;have HSL:=Lib.hid hl1
  have hwr:wrap64 ((nu:Int)+(nl:Int))=(nu:Int)+(nl:Int):=IntWalk.wrap64_in _ ⟨by omega,by omega⟩
  clear hu1 hl1
  have j0:=B1.cell (i:=0) rfl
  have j3:=B1.cell (i:=3) rfl
  have j4:=B1.cell (i:=4) rfl
  have kk:(aJ m).kind=m.kind:=rfl
  have kn:(aJ m).nonce=m.nonce:=rfl
  have kt:(aJ m).tag=m.tag:=rfl
  rw[kk]at j0
  rw[kn]at j3
  rw[kt]at j4
  clear kk kn kt
  have HM:=Lib.hid (show aM m=(((decide (m.kind=10)||decide (m.nonce.size=32))&&(!al m.kind||decide (m.tag.size=32)))&&jZ (strip m)) by unfold aM;rw[hs,xt,Bool.true_and])
  clear hs
  have HBB:=Lib.hid B1
  clear ht
  obtain⟨q3,hq3⟩:∃q,q=((m.kind !=10&& !decide (m.nonce.size=32))||(al m.kind&& !decide (m.tag.size=32))):=⟨_,rfl⟩
  have HM2:=Lib.hid (show aM m=(!q3&&jZ (strip m)) by
   rw[HM.out,hq3]
   cases al m.kind<;>by_cases h1:m.kind=10<;>by_cases h2:m.nonce.size=32<;>by_cases h3:m.tag.size=32<;>simp[h1,h2,h3])
  have HQ3:=Lib.hid hq3
  have HNUx:=Lib.hid hnu;have HNLx:=Lib.hid hnl
  clear HM hq3 B1 hnu hnl
  go_upto_region 3 with fail
  go_cut [28]from 7 to 28 (fun v wc=>v= .bool q3∧ac wc b ((aJ m).cells u' l') 73∧Below w.heap.size w wc)
  case first=>
   by_cases k10:m.kind=10
   ·rw[k10]at j0
    go_wp2_with (first
     |(go_at_call 119;refine(ch _ _).mono ?_;rintro et wt ⟨rfl,rfl⟩;rw[show al 10=false from rfl])
     |fail)
    all_goals go_meet
    exact⟨congrArg Value.bool (by rw[HQ3.out,k10];simp[al]),HBB.out,HB1⟩
   ·have kne:(m.kind !=10)=true:=by simpa using k10
    by_cases hn:m.nonce.size=32
    rotate_left
    ·go_wp2_with (first
      |((with_reducible refine dK 64 9 1 ?parts13 [.string m.nonce] (.string ⟨#[]⟩) 1 16 (some 13) Tryz.underlying64 gm (by omega) (by omega) ?hgd ?ho ?hd ?hf ?_);(case hgd|ho|hd=>rfl);(case hf=>kernel_rfl);(intro g2 w2 l2 B2 e2 z2))
      |(go_at_call 118;refine(eG _ [m.nonce] _ (gI B2) (by simp)).mono ?_;rintro ew ww ⟨rfl,rfl⟩;rw[iG,decide_eq_false hn])
      |fail)
     all_goals go_meet
     exact⟨congrArg Value.bool (by rw[HQ3.out,kne,decide_eq_false hn];rfl),HBB.out.below e2 (Nat.lt_of_lt_of_le HBB.out.lt l2),HB1.trans (e2.mono (Nat.le_trans HB1.size l2))⟩
    ·cases htg:al m.kind with
     |false=>
      go_wp2_with (first
       |((with_reducible refine dK 64 9 1 ?parts13 [.string m.nonce] (.string ⟨#[]⟩) 1 16 (some 13) Tryz.underlying64 gm (by omega) (by omega) ?hgd ?ho ?hd ?hf ?_);(case hgd|ho|hd=>rfl);(case hf=>kernel_rfl);(intro g2 w2 l2 B2 e2 z2);have B3:=HBB.out.below e2 (Nat.lt_of_lt_of_le HBB.out.lt l2);have HB3:=HB1.trans (e2.mono (Nat.le_trans HB1.size l2));have i0:=B3.cell (i:=0) rfl;replace i0:w2.cell? ⟨b,0,none⟩=some (.int .i64 m.kind):=i0)
       |(go_at_call 118;refine(eG _ [m.nonce] _ (gI B2) (by simp)).mono ?_;rintro ew ww ⟨rfl,rfl⟩;rw[iG,decide_eq_true hn])
       |(go_at_call 119;refine(ch _ _).mono ?_;rintro et wt ⟨rfl,rfl⟩;rw[htg])
       |fail)
      all_goals go_meet
      exact⟨congrArg Value.bool (by rw[HQ3.out,decide_eq_true hn,htg];simp),B3,HB3⟩
     |true=>
      go_wp2_with (first
       |(have _:=B2;((with_reducible refine dK 64 9 1 ?parts24 [.string m.tag] (.string ⟨#[]⟩) 1 16 (some 24) Tryz.underlying64 gm (by omega) (by omega) ?hgd ?ho ?hd ?hf ?_);(case hgd|ho|hd=>rfl);(case hf=>kernel_rfl);(intro g4 w4 l4 B4 e4 z4);have wide2:=trivial;have B5:=B3.below e4 (Nat.lt_of_lt_of_le B3.lt l4);have HB5:=HB3.trans (e4.mono (Nat.le_trans HB3.size l4))))
       |((with_reducible refine dK 64 9 1 ?parts13 [.string m.nonce] (.string ⟨#[]⟩) 1 16 (some 13) Tryz.underlying64 gm (by omega) (by omega) ?hgd ?ho ?hd ?hf ?_);(case hgd|ho|hd=>rfl);(case hf=>kernel_rfl);(intro g2 w2 l2 B2 e2 z2);have B3:=HBB.out.below e2 (Nat.lt_of_lt_of_le HBB.out.lt l2);have HB3:=HB1.trans (e2.mono (Nat.le_trans HB1.size l2));have i0:=B3.cell (i:=0) rfl;replace i0:w2.cell? ⟨b,0,none⟩=some (.int .i64 m.kind):=i0;have i4:=B3.cell (i:=4) rfl;replace i4:w2.cell? ⟨b,4,none⟩=some (.string m.tag):=i4)
       |(have _:=wide2;go_at_call 118;refine(eG _ [m.tag] _ (gI B4) (by simp)).mono ?_;rintro ew ww ⟨rfl,rfl⟩;rw[iG])
       |(go_at_call 118;refine(eG _ [m.nonce] _ (gI B2) (by simp)).mono ?_;rintro ew ww ⟨rfl,rfl⟩;rw[iG,decide_eq_true hn])
       |(go_at_call 119;refine(ch _ _).mono ?_;rintro et wt ⟨rfl,rfl⟩;rw[htg])
       |fail)
      all_goals go_meet
      exact⟨congrArg Value.bool (by rw[HQ3.out,decide_eq_true hn,htg];simp),B5,HB5⟩
  case rest=>
   obtain⟨rfl,BX,HBX⟩:=hcut
   clear HBB HB1 j0 j3 j4
   have j0:=BX.cell (i:=0) rfl
   replace j0:wc.cell? ⟨b,0,none⟩=some (.int .i64 m.kind):=j0
   cases q3 with
   |true=>
    have HC:=Lib.hid (show iS m=2 from BQ (q:=false) (by rw[HM2.out];rfl))
    go_wp2_with fail
    go_ret
    exact⟨by rw[HC.out];rfl,HBX⟩
   |false=>
    have HCH:Hid (iS m=if jZ (strip m)then 0 else 2):=Lib.hid (BQ (by rw[HM2.out];rfl))
    clear HM2 HQ3
    go_upto_if 31 with fail
    go_cut []from 29 to 32 (fun wd=>ac wd b (({aJ m with nonce:=if m.kind=10 then m.nonce else⟨#[]⟩}:aa).cells u' l') 73∧Below w.heap.size w wd)
    case first=>
     by_cases k10:m.kind=10
     ·have kne:(m.kind !=10)=false:=by simpa using k10
      go_wp2_with fail
      all_goals go_meet
      refine⟨?_,HBX⟩
      rw[if_pos k10]
      exact BX
     ·have kne:(m.kind !=10)=true:=by simpa using k10
      go_wp2_with (first
       |((with_reducible refine aj 9 (.tmp 32) (.const (.string ⟨#[]⟩)) b 3 (.string ⟨#[]⟩) _ _ BX (Nat.le_of_ble_eq_true rfl) (by kernel_rfl) rfl ?hgd ?ho ?hx ?hy ?_);(case hgd|ho|hx|hy=>rfl);(intro w4 B4 o4))
       |fail)
      all_goals go_meet
      refine⟨?_,o4.below HBX l0⟩
      rw[if_neg k10]
      exact B4
    case rest=>
     obtain⟨BY1,HBY1⟩:=hcut
     clear BX HBX j0
     have j0:=BY1.cell (i:=0) rfl
     replace j0:wc.cell? ⟨b,0,none⟩=some (.int .i64 m.kind):=j0
     go_upto_if 35 with((go_at_call 119;refine(ch _ _).mono ?_;rintro et wt ⟨rfl,rfl⟩))
     go_cut []from 33 to 36 (fun we=>ac we b ((strip m).cells u' l') 73∧Below w.heap.size w we)
     case first=>
      cases htg:al m.kind with
      |false=>
       go_wp2_with fail
       all_goals go_meet
       refine⟨?_,HBY1⟩
       unfold strip
       rw[htg]
       exact BY1
      |true=>
       go_wp2_with (first
        |((with_reducible refine aj 9 (.tmp 36) (.const (.string ⟨#[]⟩)) b 4 (.string ⟨#[]⟩) _ _ BY1 (Nat.le_of_ble_eq_true rfl) (by kernel_rfl) rfl ?hgd ?ho ?hx ?hy ?_);(case hgd|ho|hx|hy=>rfl);(intro w4 B4 o4))
        |fail)
       all_goals go_meet
       refine⟨?_,o4.below HBY1 l0⟩
       unfold strip
       rw[htg]
       exact B4
     case rest=>
      obtain⟨BY0,HBY⟩:=hcut
      clear BY1 HBY1 j0
      obtain⟨y,hyy⟩:∃y,y=strip m:=⟨_,rfl⟩
      have BY:ac wc b (y.cells u' l') 73:=by rw[hyy];exact BY0
      have HNU:Hid (nu=y.told.up.length):=Lib.hid (by rw[hyy];exact HNUx.out)
      have HNL:Hid (nl=y.told.left.length):=Lib.hid (by rw[hyy];exact HNLx.out)
      have HCHK:Hid (iS m=if jZ y then 0 else 2):=Lib.hid (by rw[hyy];exact HCH.out)
      clear BY0 hyy HCH
      go_upto_region 9 with fail
      go_cut [3]from 37 to 38 (fun v wd=>∃p,v= .pointer (some ⟨p,0,none⟩)∧ac wd p (y.told.cells u' l') 69∧ac wd b (y.cells u' l') 73∧Below w.heap.size w wd)
      case first=>
       go_wp2_with (first
        |((with_reducible refine ag 69 (.tmp 37) b 17 (y.told.cells u' l') _ (some 38) ((BY.ext (y.toldAt u' l')).part (off:=17) rfl) Tryz.underlying69 rfl mA ?hg ?ho ?hds ?hx ?_);(case hg|ho|hds|hx=>rfl))
        |((with_reducible refine af 69 nY Eh (some 3) ?hgd ?ho ?hd ?_);(case hgd|ho|hd=>rfl);(intro p w7 l7 B7 e7 z7;have BB7:=BY.below e7 (Nat.lt_of_lt_of_le BY.lt l7)))
        |((with_reducible refine ae 69 (.tmp 3) (.tmp 38) p nY (y.told.cells u' l') 69 B7 rfl mA (zL hsu hsl) ?hgd ?ho ?hx ?hy ?_);(case hgd|ho|hx|hy=>rfl);(intro w8 B8 o8;have BB8:=o8.blk BB7 (by have:=BY.lt;omega);have HB8:Below w.heap.size w w8:=o8.below (HBY.trans (e7.mono (Nat.le_trans HBY.size l7))) (Nat.le_trans HBY.size l7);have t0:=B8.cell (i:=0) rfl;have t1:=B8.cell (i:=1) rfl;have t2:=B8.cell (i:=2) rfl;have t3:=B8.cell (i:=3) rfl;have t4:=B8.cell (i:=4) rfl;have t5:=B8.cell (i:=5) rfl;have t6:=B8.cell (i:=6) rfl;have t7:=B8.cell (i:=7) rfl;have t8:=B8.cell (i:=8) rfl;have t9:=B8.cell (i:=9) rfl;have t10:=B8.cell (i:=10) rfl;have t11:=B8.cell (i:=11) rfl;have t12:=B8.cell (i:=12) rfl;rw[HSU.out]at t9;rw[HSL.out]at t10;have k0:=BB8.cell (i:=0) rfl;have k1:=BB8.cell (i:=1) rfl;have k2:=BB8.cell (i:=2) rfl;have k3:=BB8.cell (i:=3) rfl;have k4:=BB8.cell (i:=4) rfl;have k5:=BB8.cell (i:=5) rfl;have k6:=BB8.cell (i:=6) rfl;have k7:=BB8.cell (i:=7) rfl))
        |fail)
       all_goals go_meet
       exact⟨p,rfl,B8,BB8,HB8⟩
      case rest=>
      obtain⟨p,rfl,B8,BB8,HB8⟩:=hcut
      obtain⟨w8,hw8⟩:∃W,W=wc:=⟨_,rfl⟩
      rw[←hw8]at B8 BB8 HB8 ⊢
      clear hw8
      have t0:=B8.cell (i:=0) rfl
      have t1:=B8.cell (i:=1) rfl
      have t2:=B8.cell (i:=2) rfl
      have t3:=B8.cell (i:=3) rfl
      have t4:=B8.cell (i:=4) rfl
      have t5:=B8.cell (i:=5) rfl
      have t6:=B8.cell (i:=6) rfl
      have t7:=B8.cell (i:=7) rfl
      have t8:=B8.cell (i:=8) rfl
      have t9:=B8.cell (i:=9) rfl
      have t10:=B8.cell (i:=10) rfl
      have t11:=B8.cell (i:=11) rfl
      have t12:=B8.cell (i:=12) rfl
      rw[HSU.out]at t9
      rw[HSL.out]at t10
      have k0:=BB8.cell (i:=0) rfl
      have k1:=BB8.cell (i:=1) rfl
      have k2:=BB8.cell (i:=2) rfl
      have k3:=BB8.cell (i:=3) rfl
      have k4:=BB8.cell (i:=4) rfl
      have k5:=BB8.cell (i:=5) rfl
      have k6:=BB8.cell (i:=6) rfl
      have k7:=BB8.cell (i:=7) rfl
      clear BY HBY
      go_upto_region 10 with fail
      go_cut [4]from 39 to 95 (fun v wf=>v= .bool (nZ y.told)∧wf=w8)
      case first=>
       go_wp2_with (first
        |((with_reducible refine ag 55 (.tmp 39) p 0 [.int .i64 y.told.askE, .int .i64 y.told.askL] _ (some 40) ((B8.ext (y.told.askAt u' l')).part (off:=0) rfl) Tryz.underlying55 rfl mw ?hg ?ho ?hds ?hx ?_);(case hg|ho|hds|hx=>rfl))
        |((with_reducible refine cQ 55 55 (.tmp 40) (.tmp 41) #[.int .i64 y.told.askE, .int .i64 y.told.askL] #[.int .i64 0, .int .i64 0] _ (some 42) uV (EZ y.told.askE y.told.askL 0 0 _) ?hgd ?ho ?hd ?hx ?hy ?_);(case hgd|ho|hd|hx|hy=>rfl))
        |((with_reducible refine ag 63 (.tmp 72) p 5 y.told.here.cells _ (some 73) ((B8.ext (y.told.hereAt u' l')).part (off:=5) rfl) Tryz.underlying63 rfl eF ?hg ?ho ?hds ?hx ?_);(case hg|ho|hds|hx=>rfl))
        |((with_reducible refine cQ 63 63 (.tmp 73) (.tmp 74) y.told.here.cells.toArray aN.zero.cells.toArray _ (some 75) gl (kz y.told.here aN.zero _) ?hgd ?ho ?hd ?hx ?hy ?_);(case hgd|ho|hd|hx|hy=>rfl))
        |((with_reducible refine ag 63 (.tmp 79) p 7 y.told.ahead.cells _ (some 80) ((B8.ext (y.told.aheadAt u' l')).part (off:=7) rfl) Tryz.underlying63 rfl eF ?hg ?ho ?hds ?hx ?_);(case hg|ho|hds|hx=>rfl))
        |((with_reducible refine cQ 63 63 (.tmp 80) (.tmp 81) y.told.ahead.cells.toArray aN.zero.cells.toArray _ (some 82) gl (kz y.told.ahead aN.zero _) ?hgd ?ho ?hd ?hx ?hy ?_);(case hgd|ho|hd|hx|hy=>rfl))
        |fail)
       all_goals go_meet
       all_goals refine⟨congrArg Value.bool ?_,rfl⟩
       all_goals(simp only[nZ,←pG,←HNU.out,←HNL.out];simp[*];try first|omega|(intros;omega)|(rw[Bool.eq_iff_iff];simp;omega))
      case rest=>
       obtain⟨rfl,rfl⟩:=hcut
       clear t0 t1 t2 t3 t4 t5 t6 t7 t8 t9 t10 t11 t12 hwr HSU HSL
       cases hz:nZ y.told with
       |false=>
        have HC:=Lib.hid (show iS m=2 by rw[HCHK.out];unfold jZ;rw[hz];rfl)
        go_wp2_with fail
        all_goals go_ret
        exact⟨yM (by rw[HC.out]),HB8⟩
       |true=>
        have HC:=Lib.hid (show iS m=if(decide (y.epoch=0)&&decide (y.seq=0)&&decide (y.nonce=⟨#[]⟩)&&decide (y.tag=⟨#[]⟩)&&decide (y.last=⟨#[]⟩)&&decide (y.askE=0∧y.askL=0)&&decide (y.sld=ax.zero)&&decide (y.rcp=aH.zero))=true then 0 else 2 by rw[HCHK.out];unfold jZ;rw[hz,Bool.true_and])
        go_wp2_with (first
         |((with_reducible refine ag 55 (.tmp 124) b 6 [.int .i64 y.askE, .int .i64 y.askL] _ (some 125) ((BB8.ext (y.askAt u' l')).part (off:=6) rfl) Tryz.underlying55 rfl mw ?hg ?ho ?hds ?hx ?_);(case hg|ho|hds|hx=>rfl))
         |((with_reducible refine gG 55 55 (.tmp 125) (.tmp 126) #[.int .i64 y.askE, .int .i64 y.askL] #[.int .i64 0, .int .i64 0] _ (some 127) uV (EZ y.askE y.askL 0 0 _) ?hgd ?ho ?hd ?hx ?hy ?_);(case hgd|ho|hd|hx|hy=>rfl))
         |((with_reducible refine ag 61 (.tmp 130) b 8 y.sld.cells _ (some 131) ((BB8.ext (y.sldAt u' l')).part (off:=8) rfl) Tryz.underlying61 rfl kU ?hg ?ho ?hds ?hx ?_);(case hg|ho|hds|hx=>rfl))
         |((with_reducible refine gG 61 61 (.tmp 131) (.tmp 132) y.sld.cells.toArray ax.zero.cells.toArray _ (some 133) DO (Ix y.sld ax.zero _) ?hgd ?ho ?hd ?hx ?hy ?_);(case hgd|ho|hd|hx|hy=>rfl))
         |((with_reducible refine ag 71 (.tmp 136) b 30 y.rcp.cells _ (some 137) ((BB8.ext (y.rcpAt u' l')).part (off:=30) rfl) Tryz.underlying71 rfl bI ?hg ?ho ?hds ?hx ?_);(case hg|ho|hds|hx=>rfl))
         |((with_reducible refine gG 71 71 (.tmp 137) (.tmp 138) y.rcp.cells.toArray aH.zero.cells.toArray _ (some 139) DN (Iw y.rcp aH.zero _) ?hgd ?ho ?hd ?hx ?hy ?_);(case hgd|ho|hd|hx|hy=>rfl))
         |fail)
        all_goals go_ret
        all_goals refine⟨yM ?_,HB8⟩
        all_goals(rw[HC.out];simp only[←pG];simp[*];try simp_all)
theorem gn {m:aa} (h:aM m=true):iS m=0:=by unfold iS;rw[h];rfl
theorem re {m:aa} (h:aM m=false):iS m=2:=by unfold iS;rw[h];rfl
theorem qn (m:aa) (u l:Value) (w:World) (hu:aX w u m.told.up) (hl:aX w l m.told.left) (ht:bc m):
  Calls Tryz.prog 25 #[m.v u l] w fun e w'=>Ends (aM m=true) (dj m) 2 e∧Below w.heap.size w w':=by
 have HU:=Lib.hid hu;have HL:=Lib.hid hl
 go_enter Tryz.func25,Tryz.ntmps25
 go_wp2_with (first
  |((with_reducible refine ai 73 (.tmp 0) (m.cells u l) (some 1) ?hgd ?ho ?hd ?hx ?_);(case hgd|ho|hd|hx=>rfl);(intro b w0 l0 B0 e0 z0))
  |((with_reducible refine ag 73 (.tmp 1) b 0 (m.cells u l) _ (some 5) B0.range Tryz.underlying73 rfl ap ?hg ?ho ?hds ?hx ?_);(case hg|ho|hds|hx=>rfl))
  |fail)
 have hb0:Below w.heap.size w w0:=e0.mono l0
 refine(dt m u l _ (HU.out.below hb0 (Nat.le_refl _)) (HL.out.below hb0 (Nat.le_refl _)) ht).mono ?_
 rintro e w1 ⟨rfl,hb1⟩
 have B1:=Lib.hid (B0.below hb1 B0.lt)
 have HB:=Lib.hid (hb0.trans (hb1.mono hb0.size))
 clear B0 e0 z0 hb0 hb1 hu hl
 cases hok:aM m with
 |false=>
  rw[re hok]
  go_wp2_with fail
  go_ret2
  exact⟨.inr ⟨by rw[hok];simp,rfl⟩,HB.out⟩
 |true=>
  rw[gn hok]
  go_wp2_with (first
   |((with_reducible refine ag 73 (.tmp 1) b 0 (m.cells u l) _ (some 10) B1.out.range Tryz.underlying73 rfl ap ?hg ?ho ?hds ?hx ?_);(case hg|ho|hds|hx=>rfl))
   |fail)
  refine(kA m u l false _ (HU.out.below HB.out (Nat.le_refl _)) (HL.out.below HB.out (Nat.le_refl _)) hok).mono ?_
  rintro e w2 ⟨r,rfl,tr,hb2⟩
  have HB2:=Lib.hid (HB.out.trans (hb2.mono HB.out.size))
  have TR:=Lib.hid tr
  clear tr hb2
  go_wp2_with fail
  go_ret2
  exact⟨.inl ⟨hok,r,rfl,TR.out⟩,HB2.out⟩
theorem xu (m:aa) (u l:Value) (w:World) (hu:aX w u m.told.up) (hl:aX w l m.told.left) (ht:bc m):
  Calls Tryz.prog 216 #[m.v u l] w fun e w'=>Ends ((al m.kind&&aM m)=true) (eU m) 2 e∧Below w.heap.size w w':=by
 have HU:=Lib.hid hu;have HL:=Lib.hid hl
 go_enter Tryz.func216,Tryz.ntmps216
 go_wp2_with ((with_reducible refine ai 73 (.tmp 0) (m.cells u l) (some 1) ?hgd ?ho ?hd ?hx ?_);(case hgd|ho|hd|hx=>rfl);(intro b w0 l0 B0 e0 z0;have k0:=B0.cell (i:=0) rfl))
 have hb0:Below w.heap.size w w0:=e0.mono l0
 refine(ch _ _).mono ?_
 rintro e wt ⟨rfl,rfl⟩
 cases htg:al m.kind with
 |false=>
  go_wp2_with fail
  go_ret2
  exact⟨.inr ⟨by rw[htg];simp,rfl⟩,hb0⟩
 |true=>
  go_wp2_with ((with_reducible refine ag 73 (.tmp 1) b 0 (m.cells u l) _ (some 9) B0.range Tryz.underlying73 rfl ap ?hg ?ho ?hds ?hx ?_);(case hg|ho|hds|hx=>rfl))
  refine(dt m u l _ (HU.out.below hb0 (Nat.le_refl _)) (HL.out.below hb0 (Nat.le_refl _)) ht).mono ?_
  rintro e w1 ⟨rfl,hb1⟩
  have B1:=Lib.hid (B0.below hb1 B0.lt)
  have HB:=Lib.hid (hb0.trans (hb1.mono hb0.size))
  clear B0 e0 z0 hb0 hb1 hu hl k0
  cases hok:aM m with
  |false=>
   rw[re hok]
   go_wp2_with fail
   go_ret2
   exact⟨.inr ⟨by rw[hok];simp,rfl⟩,HB.out⟩
  |true=>
   rw[gn hok]
   go_wp2_with (first
    |((with_reducible refine ag 73 (.tmp 1) b 0 (m.cells u l) _ (some 13) B1.out.range Tryz.underlying73 rfl ap ?hg ?ho ?hds ?hx ?_);(case hg|ho|hds|hx=>rfl))
    |fail)
   refine(kA m u l true _ (HU.out.below HB.out (Nat.le_refl _)) (HL.out.below HB.out (Nat.le_refl _)) hok).mono ?_
   rintro e w2 ⟨r,rfl,tr,hb2⟩
   have HB2:=Lib.hid (HB.out.trans (hb2.mono HB.out.size))
   have TR:=Lib.hid tr
   clear tr hb2
   go_wp2_with fail
   go_ret2
   exact⟨.inl ⟨by rw[htg,hok];rfl,r,rfl,TR.out⟩,HB2.out⟩
end Go.Proofs.YtngiibgdgenidaaGreat
