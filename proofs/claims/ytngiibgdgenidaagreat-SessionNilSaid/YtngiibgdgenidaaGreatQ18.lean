/- An index (chapter 14): an epoch's versions, where there is at most one. A ring that is none (chapter 26): a record's tag, the next key. A held text's bytes (chapter 12): Hold. A record is sealed (chapter 26): held, where there is no ring. A journal within a volume (chapter 25): next, time. -/
import Derived.Test.YtngiibgdgenidaaGreatQ16
import Derived.Test.YtngiibgdgenidaaGreatQ17
import Derived.Deep.QuietTactic
import Derived.BigQuiet
import Derived.Test.YtngiibgdgenidaaGreatQ10
import Derived.OrdersHeld
import Derived.Test.YtngiibgdgenidaaGreatQ4
import Derived.Test.YtngiibgdgenidaaGreatQ12
import Derived.Test.YtngiibgdgenidaaGreatQ15
import Derived.Test.YtngiibgdgenidaaGreatQ14
import Derived.Test.YtngiibgdgenidaaGreatQ13
set_option linter.unusedSimpArgs false
set_option linter.unusedVariables false
set_option maxRecDepth 100000
set_option maxHeartbeats 4000000
namespace Go.Proofs.YtngiibgdgenidaaGreat
open Go Go.RowKit
def je (l:List aO) (ep:Int):List aO:=l.filter fun x=>decide (x.epoch=ep)
theorem yH {l:List aO} {ep:Int} {k:Nat} {x:aO} (hx:l[k]?=some x) (he:x.epoch=ep):je (l.take (k+1)) ep=je (l.take k) ep++[x]:=by
 obtain⟨h1,h2⟩:=List.getElem?_eq_some_iff.1 hx
 unfold je
 rw[List.take_succ_eq_append_getElem h1,List.filter_append,h2]
 simp[he]
theorem GF {l:List aO} {ep:Int} {k:Nat} {x:aO} (hx:l[k]?=some x) (he:¬x.epoch=ep):je (l.take (k+1)) ep=je (l.take k) ep:=by
 obtain⟨h1,h2⟩:=List.getElem?_eq_some_iff.1 hx
 unfold je
 rw[List.take_succ_eq_append_getElem h1,List.filter_append,h2]
 simp[he]
theorem D2 (l:List aO) (ep:Int) (k:Nat):(je (l.take k) ep).length≤(je l ep).length:=by
 unfold je
 exact((List.take_sublist k l).filter _).length_le
theorem Bd {l:List aO} {ep:Int} {k:Nat} {x:aO} (h:(je l ep).length≤1) (hx:l[k]?=some x) (he:x.epoch=ep):je (l.take k) ep=[]:=by
 have h1:=D2 l ep (k+1)
 rw[yH hx he,List.length_append]at h1
 simp only[List.length_cons,List.length_nil]at h1
 exact List.eq_nil_of_length_eq_zero (by omega)
theorem GG {w:World} {base base' n size:Nat} {e:TypeId} {v:Value} {xs:List Value} (h:w.ownsRow base e size v n xs) (hb:base'≤base):w.ownsRow base' e size v n xs:=by
 rcases h with⟨h1,h2⟩
 refine⟨h1, ?_⟩
 rcases h2 with h2|⟨g,cap,cur,a,b,c⟩
 ·exact .inl h2
 ·exact .inr ⟨g,cap,cur,a,Nat.le_trans hb b,c⟩
theorem pZ:(Tryz.prog.info? 171).map (fun i=>(i.zero,i.size,i.bytes))=some (some (.agg #[.int .i64 0, .int .i64 0, .int .i64 0]),3,24):=by kernel_rfl
theorem xg (xb n:Nat) (xv:Value) (l:List aO) (ep:Int) (w:World) (hX:ac w xb [.bool true,xv] 263) (hR:w.ownsRow 0 171 3 xv n (cO l)) (hl:l.length=n) (hn:n≤4096) (h1:(je l ep).length≤1):
  Calls Tryz.prog 196 #[.pointer (some ⟨xb,0,none⟩), .int .i64 ep] w fun e w'=>(∃vo,e= .returned vo∧w'.ownsRow w.heap.size 171 3 vo (je l ep).length (cO (je l ep)))∧Below w.heap.size w w':=by
 obtain⟨i0,hi,hz0,hz1,hz2⟩:=info_parts pZ
 have HX:=Lib.hid hX
 have HR:=Lib.hid hR
 have HL:=Lib.hid hl
 have HN:=Lib.hid hn
 have H1:=Lib.hid h1
 clear hX hR hl hn h1
 go_enter Tryz.func196,Tryz.ntmps196
 go_wp2_with fail
 refine(A3 xb n xv l _ HX.out HR.out HN.out).mono ?_
 rintro e w1 ⟨⟨va,rfl,ha⟩,hb1⟩
 obtain⟨pa,ca,rfl⟩:=aQ ha
 have HA:=Lib.hid ha
 have HB1:=Lib.hid hb1
 clear ha hb1
 go_wp2_with fail
 go_loopw [5,12] (fun vo i wr=>∃k:Nat,k≤n∧i= .int .i64 k∧Hid (wr.ownsRow w1.heap.size 171 3 vo (je (l.take k) ep).length (cO (je (l.take k) ep)))∧Hid (Below w1.heap.size w1 wr)) (fun _ i _=>n-(intOf i).toNat)
 case atStart=>exact⟨0,Nat.zero_le _,rfl,Lib.hid (World.ownsRow_nil _ _ _ _),Lib.hid (Below.refl _ _)⟩
 case round=>
  obtain⟨k,hk,rfl,HO,HB2⟩:=hrel
  have hn:=HN.out
  by_cases hlt:k<n
  ·have hlt':(k:Int)<(n:Int):=by omega
   obtain⟨g,cap,z,he,_,_,hG⟩:=dA HA.out (by omega)
   injection he with he hnn hcc
   subst he hcc
   clear hnn
   have HG:=Lib.hid (hG.below HB2.out hG.lt)
   obtain⟨x,hx⟩:∃x,l[k]?=some x:=⟨_,List.getElem?_eq_getElem (by have:=HL.out;omega)⟩
   have HX1:=Lib.hid hx
   have HRX:=Lib.hid (Fo HG.out HX1.out)
   clear hG hx
   by_cases hxe:x.epoch=ep
   ·have hv0:=Bd H1.out HX1.out hxe
    have ho2:=HO.out
    rw[hv0]at ho2
    simp only[List.length_nil]at ho2
    have HO2:=Lib.hid ho2
    clear ho2
    obtain⟨po,co,rfl⟩:=aQ HO2.out
    have HV0:=Lib.hid hv0
    clear hv0
    go_upto_region 7 with(first
     |((with_reducible refine ag 171 (.tmp 14) g (k*3) x.cells _ (some 15) HRX.out Tryz.underlying171 rfl eb ?hg ?ho ?hds ?hx ?_);(case ho|hg|hds|hx=>rfl))
     |((with_reducible refine af 171 _ jg (some 7) ?hgd ?ho ?hd ?_);(case hgd|ho|hd=>rfl);(intro b7 w5 l5 B5 e5 z5))
     |((with_reducible refine ae 171 (.tmp 7) (.tmp 15) b7 (aO.cells ⟨0,0,0⟩) x.cells 171 B5 rfl eb (io _) ?hgd ?ho ?hx ?hy ?_);(case hgd|ho|hx|hy=>rfl);(intro w6 B6 o6;have y0:=B6.cell (i:=0) rfl;have y1:w6.cell? ⟨b7,1,none⟩=some (.int .i64 ep):=(by rw[←hxe];exact B6.cell (i:=1) rfl)))
     |fail)
    have HB6:=Lib.hid B6
    have hb6:Below wr.heap.size wr w6:=o6.below (e5.mono l5) l5
    have HB26:=Lib.hid (HB2.out.trans (hb6.mono HB2.out.size)).drew
    have HO6:=Lib.hid (own_below hb6.drew HO2.out)
    clear B5 e5 z5 o6 l5 hb6 y0 y1
    go_region
    have HB6d:=Lib.hid HB6.out.drew
    obtain⟨wd,hwd⟩:∃wd,wd=w6.drew:=⟨_,rfl⟩
    rw[←hwd]at HB26 HO6 HB6d
    rw[←hwd]
    clear HB6 B6 hwd
    go_wp2_with (first
     |((with_reducible refine au 171 (.tmp 7) b7 x.cells 171 _ HB6d.out Tryz.underlying171 rfl eb ?hgd ?ho ?hx ?_);(case hgd|ho|hx=>rfl))
     |((with_reducible refine bD 251 171 1 ?parts x.cells (.agg #[.int .i64 0, .int .i64 0, .int .i64 0]) 3 24 (some 42) Tryz.underlying251 pZ (by omega) (by omega) ?hgd ?ho ?hd ?hf ?_);(case hgd|ho|hd=>rfl);(case hf=>kernel_rfl);(intro g8 w8 l8 B8 e8 z8;have HB8:=Lib.hid B8;have HB28:=Lib.hid (HB26.out.trans (e8.mono (Nat.le_trans HB26.out.size l8)));have HO8:=Lib.hid (own_below (e8.mono l8) HO6.out)))
     |(at_builtin;refine wpList_append_own_wide _ rfl _ _ 251 rfl w1.heap.size 171 i0 (.agg #[.int .i64 0, .int .i64 0, .int .i64 0]) 3 24 Tryz.underlying251 hi hz0 hz1 hz2 rfl (by decide) _ 0 (cO []) rfl HO8.out ⟨g8,0,none⟩ 1 1 x.cells rfl rfl (cj HB8.out) (io _) (by unfold maxLen;omega) (by omega) HB28.out.size ?_;intro v' w9 own9 grow9 nil9)
     |fail)
    go_roundw
    case rel=>
     refine⟨k+1,by omega,by go_num,Lib.hid ?_,Lib.hid (fK HB28.out HO8.out grow9 (Nat.le_refl _) HB28.out.size)⟩
     ·rw[yH HX1.out hxe,HV0.out]
      show World.ownsRow _ _ _ _ _ 1 (cO [x])
      have he:cO [x]=cO []++x.cells:=by simp[cO]
      rw[he]
      exact own9
    case measure=>simp[intOf];omega
   ·have hxe':(x.epoch==ep)=false:=beq_eq_false_iff_ne.2 hxe
    go_wp2_with (first
     |((with_reducible refine ag 171 (.tmp 14) g (k*3) x.cells _ (some 15) HRX.out Tryz.underlying171 rfl eb ?hg ?ho ?hds ?hx ?_);(case ho|hg|hds|hx=>rfl))
     |((with_reducible refine af 171 _ jg (some 7) ?hgd ?ho ?hd ?_);(case hgd|ho|hd=>rfl);(intro b7 w5 l5 B5 e5 z5))
     |((with_reducible refine ae 171 (.tmp 7) (.tmp 15) b7 (aO.cells ⟨0,0,0⟩) x.cells 171 B5 rfl eb (io _) ?hgd ?ho ?hx ?hy ?_);(case hgd|ho|hx|hy=>rfl);(intro w6 B6 o6;have y1:w6.cell? ⟨b7,1,none⟩=some (.int .i64 x.epoch):=B6.cell (i:=1) rfl))
     |fail)
    have hb6:Below wr.heap.size wr w6:=o6.below (e5.mono l5) l5
    go_roundw
    case rel=>
     refine⟨k+1,by omega,by go_num,Lib.hid ?_,Lib.hid (HB2.out.trans (hb6.mono HB2.out.size))⟩
     rw[GF HX1.out hxe]
     exact own_below hb6 HO.out
    case measure=>simp[intOf];omega
  ·obtain rfl:k=n:=by omega
   go_wp2_with fail
   go_ret
   refine⟨⟨_,rfl,GG ?_ HB1.out.size⟩,HB1.out.trans (HB2.out.mono HB1.out.size)⟩
   have:=HO.out
   rw[List.take_of_length_le (by rw[HL.out];exact Nat.le_refl _)]at this
   exact this
theorem sP (n:Int) (key:ByteArray) (w:World) (hk:key.size=32):
  Calls Tryz.prog 103 #[.pointer none, .int .i64 n, .string key] w fun e w'=>(∃s,e= .returned (.string s)∧ak s (dw key.data.toList [110,101,120,116] []))∧Below w.heap.size w w':=by
 have HK:=Lib.hid hk
 clear hk
 go_enter Tryz.func103,Tryz.ntmps103
 go_wp2_with fail
 refine(nL key _).mono ?_
 rintro e w1 ⟨he,hb1⟩
 obtain⟨s,rfl,ts⟩:=he.yes HK.out
 have HTS:=Lib.hid ts
 have HB1:=Lib.hid hb1
 clear ts hb1 he
 go_wp2_with fail
 go_ret
 exact⟨⟨s,rfl,HTS.out⟩,HB1.out⟩
theorem uK (key was:ByteArray) (seq:Int) (r:Rec) (w:World) (hk:key.size=32) (hok:ix was seq r) (hroot:r.root.size≤1048576) (hname:r.name.size≤1048576) (hf:Fits r.epoch) (hs:Fits seq):
  Calls Tryz.prog 198 #[.pointer none, .string key, .string was, .int .i64 seq,r.v] w fun e w'=>(∃s,e= .returned (.string s)∧ak s (lw key.data.toList was.data.toList seq r))∧Below w.heap.size w w':=by
 have HK:=Lib.hid (show key.size=32∧ix was seq r from⟨hk,hok⟩)
 have HF:=Lib.hid (show(r.root.size≤1048576∧r.name.size≤1048576)∧Fits r.epoch∧Fits seq from⟨⟨hroot,hname⟩,hf,hs⟩)
 clear hk hok hroot hname hf hs
 go_enter Tryz.func198,Tryz.ntmps198
 go_upto_region 1 with(first
  |((with_reducible refine ai 59 (.tmp 4) r.cells (some 9) ?hgd ?ho ?hd ?hx ?_);(case hgd|ho|hd|hx=>rfl);(intro b w0 l0 B0 e0 z0))
  |fail)
 have HB0:=Lib.hid B0
 have HBE0:=Lib.hid (e0.mono l0)
 clear B0 e0 l0 z0
 go_region
 have HBd:=Lib.hid HB0.out.drew
 have HBEd:=Lib.hid HBE0.out.drew
 obtain⟨wd,hwd⟩:∃wd,wd=w0.drew:=⟨_,rfl⟩
 rw[←hwd]at HBd HBEd
 rw[←hwd]
 clear hwd HB0 HBE0
 go_wp2_with (first
  |((with_reducible refine au 59 (.tmp 9) b r.cells 59 _ HBd.out Tryz.underlying59 rfl aS ?hgd ?ho ?hx ?_);(case hgd|ho|hx=>rfl))
  |fail)
 refine(rP key was seq r _ HF.out.1.1 HF.out.1.2 HF.out.2.1 HF.out.2.2).mono ?_
 rintro e w1 ⟨he,hb1⟩
 obtain⟨s,rfl,ts⟩:=he.yes HK.out
 have HTS:=Lib.hid ts
 have HB1:=Lib.hid (HBEd.out.trans (hb1.mono HBEd.out.size))
 clear ts hb1 he
 go_wp2_with fail
 go_ret
 exact⟨⟨s,rfl,HTS.out⟩,HB1.out⟩
section
variable {P:Program} {o:Oper} {a:Act} {w:World} {K:Act→World→Prop} {Q:Exit→Act→World→Prop}
theorem iN (src dst e:TypeId) (x:Operand) (l:List UInt8) (b off len cap:Nat)
  (hs:P.underlying src=some (.slice e)) (he:P.underlying e=some (.int .u8)) (hd:P.underlying dst=some .string)
  (hr:w.rangeAt b off (bytesV l)) (hl:len=l.length) (v:Value) (hv:str l=v)
  (ho:o.op= .convert src dst x) (hx:a.eval x= .slice (some ⟨b,off,none⟩) len cap)
  (h:K (a.put o.dst v) w):o.wp P a w K Q:=by
 subst hv
 unfold Oper.wp execOp
 simp only[ho,hx,Sem.run_bind]
 rw[run_convert_bytes_string w src dst e _ _ _ hs he hd,ky w _ l len cap hl (fun j v hv=>by rw[Addr.add_mid];exact hr j v hv)]
 exact h
end
theorem hold_walk (s:ByteArray) (w:World) (h0:1≤s.size) (h1:s.size≤4000):
  Calls Tryz.prog 201 #[.string s] w fun e w'=>(∃z,e= .returned (.tuple #[.string z, .int .i64 0])∧ak z (holdL s.data.toList))∧Below w.heap.size w w':=by
 have hs:(s.toList==([]:List UInt8))=false:=by
  rw[beq_eq_false_iff_ne];intro e
  have h9:s.data.toList.length=0:=by rw[←Lib.toList_data,e];rfl
  have h8:s.data.toList.length=s.size:=rfl
  omega
 have hi:(s.size:Int)≤4000:=by omega
 have H1:=Lib.hid h1
 clear h1 h0
 go_enter Tryz.func201,Tryz.ntmps201
 go_upto_region 3 with fail
 clear hs
 refine wp_region_held_drew (S:=fun wx=>True) (by kernel_rfl) (trivial) (fun hHeld=> ?_)
 obtain⟨wd,hwd⟩:∃wd,wd=w.drew:=⟨_,rfl⟩
 have HBEwd:Hid (Below w.heap.size w wd):=Lib.hid (by rw[hwd];exact(Below.refl _ _).drew)
 rw[←hwd]
 (try rw[←hwd]at hHeld)
 clear hwd
 refine hp 2 ?_
 refine wpAnyH_ready (rs:=[0,3]) (by kernel_rfl) (by simp) ?_
 refine AllReadyH.cons rfl (fun K hK=> ?_) (AllReadyH.cons rfl (fun K hK=> ?_) AllReadyH.nil)
 ·go_simp
  obtain⟨wa,hw4⟩:∃w4,w4=wd.alloc (Obj.cells #[.int .u8 3] 5):=⟨_,rfl⟩
  rw[←hw4]
  have hb4:Below wd.heap.size wd wa:=by rw[hw4];exact(Below.refl _ _).alloc (Nat.le_refl _) _
  have B4:ac wa wd.heap.size (bytesV [3]) 5:=by rw[hw4];exact ac.new wd _ _
  have HGwa:=Lib.hid B4
  have HBEwa:=Lib.hid (HBEwd.out.trans (hb4.mono HBEwd.out.size))
  clear hb4 B4 hw4
  (try go_wp2_with fail)
  refine hK.out _ _ (trivial) (fun hHeld2=> ?_)
  clear hK K hHeld
  have hHeld:=hHeld2
  clear hHeld2
  (try go_frame)
  refine wpAnyH_ready (rs:=[1,3]) (by kernel_rfl) (by simp) ?_
  refine AllReadyH.cons rfl (fun K hK=> ?_) (AllReadyH.cons rfl (fun K hK=> ?_) AllReadyH.nil)
  ·refine iN 217 9 5 (.tmp 11) [3] wd.heap.size 0 1 1 Tryz.underlying217 Tryz.underlying5 Tryz.underlying9 HGwa.out.range rfl (.string ⟨#[3]⟩) rfl rfl rfl ?_
   refine hK.out _ _ (trivial) (fun hHeld2=> ?_)
   clear hK K hHeld
   have hHeld:=hHeld2
   clear hHeld2
   (try go_frame)
   refine wpAnyH_ready (rs:=[3]) (by kernel_rfl) (by simp) ?_
   refine AllReadyH.cons rfl (fun K hK=> ?_) AllReadyH.nil
   go_simp
   refine(fa s _ (by have:=H1.out;omega)).mono ?_
   rintro e wt ⟨t,rfl,tt,hbt⟩
   have HTT:=Lib.hid tt
   have HBEwt:=Lib.hid (HBEwa.out.trans (hbt.mono HBEwa.out.size))
   have hts:t.size=4+s.size:=by rw[tt.size,bQ];rfl
   have HTS:=Lib.hid hts
   skip
   clear tt hbt hts
   (try go_wp2_with fail)
   refine hK.out _ _ (trivial) (fun hHeld2=> ?_)
   clear hK K hHeld
   have hHeld:=hHeld2
   clear hHeld2
   (try go_frame)
   have hts:¬9223372036854775807<1+t.size:=by have:=HTS.out;have:=H1.out;omega
   refine hp 4 ?_
   obtain⟨s3,hs3⟩:∃s3:ByteArray,s3=ByteArray.mk #[3]++t:=⟨_,rfl⟩
   rw[←hs3]
   have HS3:=Lib.hid (show s3.size=1+t.size by rw[hs3,ByteArray.size_append];rfl)
   have HT3:=Lib.hid (show ak s3 ([3]++bT s.data.toList) by rw[hs3];exact(show ak (ByteArray.mk #[3]) [3]from rfl).append HTT.out)
   clear hs3
   refine wpAnyH_ready (rs:=[5]) (by kernel_rfl) (by simp) ?_
   refine AllReadyH.cons rfl (fun K hK=> ?_) AllReadyH.nil
   go_simp
   refine(gv s3 4096 _ (by have:=HS3.out;have:=HTS.out;have:=H1.out;omega) (by decide)).mono ?_
   rintro e wf ⟨z,rfl,tz,hbf⟩
   have HBEf:=Lib.hid (HBEwt.out.trans (hbf.mono HBEwt.out.size))
   have HTZ:=Lib.hid (show ak z (holdL s.data.toList)from tz.cast (by unfold holdL;rw[show s3.data.toList= _ from HT3.out]))
   clear tz hbf hts
   (try go_wp2_with fail)
   refine hK.out _ _ (trivial) (fun hHeld2=> ?_)
   clear hK K hHeld
   have hHeld:=hHeld2
   clear hHeld2
   (try go_frame)
   refine hp 6 ?_
   refine hp 7 ?_
   refine hp 8 ?_
   refine hp 9 ?_
   refine wpAnyH_done (by kernel_rfl) ?_ _
   clear hHeld
   go_wp2_with fail
   go_ret2
   exact⟨⟨z,rfl,HTZ.out⟩,HBEf.out⟩
  ·go_simp
   refine(fa s _ (by have:=H1.out;omega)).mono ?_
   rintro e wt ⟨t,rfl,tt,hbt⟩
   have HTT:=Lib.hid tt
   have HBEwt:=Lib.hid (HBEwa.out.trans (hbt.mono HBEwa.out.size))
   have hts:t.size=4+s.size:=by rw[tt.size,bQ];rfl
   have HTS:=Lib.hid hts
   have HGwt:=Lib.hid (HGwa.out.below hbt HGwa.out.lt)
   clear tt hbt hts
   (try go_wp2_with fail)
   refine hK.out _ _ (trivial) (fun hHeld2=> ?_)
   clear hK K hHeld
   have hHeld:=hHeld2
   clear hHeld2
   (try go_frame)
   refine wpAnyH_ready (rs:=[1]) (by kernel_rfl) (by simp) ?_
   refine AllReadyH.cons rfl (fun K hK=> ?_) AllReadyH.nil
   refine iN 217 9 5 (.tmp 11) [3] wd.heap.size 0 1 1 Tryz.underlying217 Tryz.underlying5 Tryz.underlying9 HGwt.out.range rfl (.string ⟨#[3]⟩) rfl rfl rfl ?_
   refine hK.out _ _ (trivial) (fun hHeld2=> ?_)
   clear hK K hHeld
   have hHeld:=hHeld2
   clear hHeld2
   (try go_frame)
   have hts:¬9223372036854775807<1+t.size:=by have:=HTS.out;have:=H1.out;omega
   refine hp 4 ?_
   obtain⟨s3,hs3⟩:∃s3:ByteArray,s3=ByteArray.mk #[3]++t:=⟨_,rfl⟩
   rw[←hs3]
   have HS3:=Lib.hid (show s3.size=1+t.size by rw[hs3,ByteArray.size_append];rfl)
   have HT3:=Lib.hid (show ak s3 ([3]++bT s.data.toList) by rw[hs3];exact(show ak (ByteArray.mk #[3]) [3]from rfl).append HTT.out)
   clear hs3
   refine wpAnyH_ready (rs:=[5]) (by kernel_rfl) (by simp) ?_
   refine AllReadyH.cons rfl (fun K hK=> ?_) AllReadyH.nil
   go_simp
   refine(gv s3 4096 _ (by have:=HS3.out;have:=HTS.out;have:=H1.out;omega) (by decide)).mono ?_
   rintro e wf ⟨z,rfl,tz,hbf⟩
   have HBEf:=Lib.hid (HBEwt.out.trans (hbf.mono HBEwt.out.size))
   have HTZ:=Lib.hid (show ak z (holdL s.data.toList)from tz.cast (by unfold holdL;rw[show s3.data.toList= _ from HT3.out]))
   clear tz hbf hts
   (try go_wp2_with fail)
   refine hK.out _ _ (trivial) (fun hHeld2=> ?_)
   clear hK K hHeld
   have hHeld:=hHeld2
   clear hHeld2
   (try go_frame)
   refine hp 6 ?_
   refine hp 7 ?_
   refine hp 8 ?_
   refine hp 9 ?_
   refine wpAnyH_done (by kernel_rfl) ?_ _
   clear hHeld
   go_wp2_with fail
   go_ret2
   exact⟨⟨z,rfl,HTZ.out⟩,HBEf.out⟩
 ·go_simp
  refine(fa s _ (by have:=H1.out;omega)).mono ?_
  rintro e wt ⟨t,rfl,tt,hbt⟩
  have HTT:=Lib.hid tt
  have HBEwt:=Lib.hid (HBEwd.out.trans (hbt.mono HBEwd.out.size))
  have hts:t.size=4+s.size:=by rw[tt.size,bQ];rfl
  have HTS:=Lib.hid hts
  skip
  clear tt hbt hts
  (try go_wp2_with fail)
  refine hK.out _ _ (trivial) (fun hHeld2=> ?_)
  clear hK K hHeld
  have hHeld:=hHeld2
  clear hHeld2
  (try go_frame)
  refine wpAnyH_ready (rs:=[0]) (by kernel_rfl) (by simp) ?_
  refine AllReadyH.cons rfl (fun K hK=> ?_) AllReadyH.nil
  go_simp
  obtain⟨wa,hw4⟩:∃w4,w4=wt.alloc (Obj.cells #[.int .u8 3] 5):=⟨_,rfl⟩
  rw[←hw4]
  have hb4:Below wt.heap.size wt wa:=by rw[hw4];exact(Below.refl _ _).alloc (Nat.le_refl _) _
  have B4:ac wa wt.heap.size (bytesV [3]) 5:=by rw[hw4];exact ac.new wt _ _
  have HGwa:=Lib.hid B4
  have HBEwa:=Lib.hid (HBEwt.out.trans (hb4.mono HBEwt.out.size))
  clear hb4 B4 hw4
  (try go_wp2_with fail)
  refine hK.out _ _ (trivial) (fun hHeld2=> ?_)
  clear hK K hHeld
  have hHeld:=hHeld2
  clear hHeld2
  (try go_frame)
  refine wpAnyH_ready (rs:=[1]) (by kernel_rfl) (by simp) ?_
  refine AllReadyH.cons rfl (fun K hK=> ?_) AllReadyH.nil
  refine iN 217 9 5 (.tmp 11) [3] wt.heap.size 0 1 1 Tryz.underlying217 Tryz.underlying5 Tryz.underlying9 HGwa.out.range rfl (.string ⟨#[3]⟩) rfl rfl rfl ?_
  refine hK.out _ _ (trivial) (fun hHeld2=> ?_)
  clear hK K hHeld
  have hHeld:=hHeld2
  clear hHeld2
  (try go_frame)
  have hts:¬9223372036854775807<1+t.size:=by have:=HTS.out;have:=H1.out;omega
  refine hp 4 ?_
  obtain⟨s3,hs3⟩:∃s3:ByteArray,s3=ByteArray.mk #[3]++t:=⟨_,rfl⟩
  rw[←hs3]
  have HS3:=Lib.hid (show s3.size=1+t.size by rw[hs3,ByteArray.size_append];rfl)
  have HT3:=Lib.hid (show ak s3 ([3]++bT s.data.toList) by rw[hs3];exact(show ak (ByteArray.mk #[3]) [3]from rfl).append HTT.out)
  clear hs3
  refine wpAnyH_ready (rs:=[5]) (by kernel_rfl) (by simp) ?_
  refine AllReadyH.cons rfl (fun K hK=> ?_) AllReadyH.nil
  go_simp
  refine(gv s3 4096 _ (by have:=HS3.out;have:=HTS.out;have:=H1.out;omega) (by decide)).mono ?_
  rintro e wf ⟨z,rfl,tz,hbf⟩
  have HBEf:=Lib.hid (HBEwa.out.trans (hbf.mono HBEwa.out.size))
  have HTZ:=Lib.hid (show ak z (holdL s.data.toList)from tz.cast (by unfold holdL;rw[show s3.data.toList= _ from HT3.out]))
  clear tz hbf hts
  (try go_wp2_with fail)
  refine hK.out _ _ (trivial) (fun hHeld2=> ?_)
  clear hK K hHeld
  have hHeld:=hHeld2
  clear hHeld2
  (try go_frame)
  refine hp 6 ?_
  refine hp 7 ?_
  refine hp 8 ?_
  refine hp 9 ?_
  refine wpAnyH_done (by kernel_rfl) ?_ _
  clear hHeld
  go_wp2_with fail
  go_ret2
  exact⟨⟨z,rfl,HTZ.out⟩,HBEf.out⟩
theorem uL (w:World):Sem.run Tryz.prog (zeroValue 61) w= .ok (.agg (ax.cells ⟨Rec.zero,⟨#[]⟩⟩).toArray) w:=by kernel_rfl
theorem mq {x:ax}:(Tryz.prog.info? 61).map (·.size)=some x.cells.length:=by kernel_rfl
theorem nW (x:ax):∀v∈x.cells,v.oneCell'=true:=by intro v hv;simp[ax.cells]at hv;rcases hv with rfl|rfl|rfl|rfl|rfl|rfl|rfl|rfl|rfl<;>rfl
theorem Bf (r:Rec) (t:ByteArray):Tryz.prog.built 61 [(0, .agg r.cells.toArray),(1, .string t)]=some (ax.cells ⟨r,t⟩).toArray:=by obtain⟨a,b,c,d,e,f,g,h⟩:=r;kernel_rfl
theorem Bh (i:aR) (v:bf) (r:Rec) (w:World) (h:aP w i v) (hrv:i.rv= .pointer none) (hk:v.key.size=32) (hok:ix (cT v.sealed) (v.sealed.length:Int) r) (hroot:r.root.size≤1048576) (hname:r.name.size≤1048576) (hf:Fits r.epoch) (hns:v.sealed.length≤1048576):
  Calls Tryz.prog 100 #[.pointer (some ⟨i.vb,0,none⟩),r.v] w fun e w'=>(∃t bl,e= .returned (.tuple #[.agg (ax.cells ⟨r,t⟩).toArray, .string bl])∧ak t (lw v.key.data.toList (cT v.sealed).data.toList (v.sealed.length:Int) r)∧ak bl (holdL (cz r++t.data.toList)))∧Below w.heap.size w w':=by
 have HK:=Lib.hid (show v.key.size=32∧ix (cT v.sealed) (v.sealed.length:Int) r from⟨hk,hok⟩)
 have HF:=Lib.hid (show(r.root.size≤1048576∧r.name.size≤1048576)∧Fits r.epoch∧Fits (v.sealed.length:Int)from⟨⟨hroot,hname⟩,hf,by unfold Fits;omega⟩)
 have HRV:=Lib.hid hrv
 have HNS:=Lib.hid hns
 have HRO:=Lib.hid hok.2.2.2
 have H0:=Lib.hid h
 obtain⟨sp,sc,hsv⟩:=aQ h.sealed
 have HSV:=Lib.hid hsv
 clear hk hok hroot hname hf hns h hrv hsv
 go_enter Tryz.func100,Tryz.ntmps100
 go_upto_region 1 with(first
  |((with_reducible refine ai 59 (.tmp 1) r.cells (some 3) ?hgd ?ho ?hd ?hx ?_);(case hgd|ho|hd|hx=>rfl);(intro b3 w1 l1 B1 e1 z1))
  |((with_reducible refine af 61 _ uL (some 4) ?hgd ?ho ?hd ?_);(case hgd|ho|hd=>rfl);(intro b4 w2 l2 B2 e2 z2))
  |fail)
 have HX1:=Lib.hid (B1.below e2 (by omega))
 have HB4:=Lib.hid B2
 have HL4:=Lib.hid (show w.heap.size≤b4 from by omega)
 have HBE1:=Lib.hid ((e1.mono l1).trans (e2.mono (by omega)))
 have H1:=Lib.hid (H0.out.below HBE1.out)
 clear B1 B2 e1 e2 l1 l2 z1 z2
 refine wp_region_held_drew (S:=fun wx=>wx.rangeAt b3 0 r.cells∧wx.cell? ⟨i.vb,7,none⟩=some (.pointer none)∧wx.cell? ⟨i.vb,1,none⟩=some (.string v.key)∧wx.cell? ⟨i.vb,4,none⟩=some (.slice sp v.sealed.length sc)) (by kernel_rfl) (⟨HX1.out.drew.range,(by rw[←HRV.out];exact H1.out.vol.drew.cell (i:=7) rfl),H1.out.vol.drew.cell (i:=1) rfl,(by rw[←HSV.out];exact H1.out.vol.drew.cell (i:=4) rfl)⟩) (fun hHeld=> ?_)
 obtain⟨wd,hwd⟩:∃wd,wd=w2.drew:=⟨_,rfl⟩
 have hbd:Below w2.heap.size w2 wd:=by rw[hwd];exact(Below.refl _ _).drew
 have Hd:=Lib.hid (H1.out.below hbd)
 have HXd:=Lib.hid (HX1.out.below hbd HX1.out.lt)
 have HB4d:=Lib.hid (HB4.out.below hbd HB4.out.lt)
 have HBEd:=Lib.hid (HBE1.out.trans (hbd.mono HBE1.out.size))
 rw[←hwd]
 rw[←hwd]at hHeld
 clear hwd hbd
 refine hp 0 ?_
 refine hp 1 ?_
 refine hp 2 ?_
 refine hp 3 ?_
 refine hp 4 ?_
 refine hp 5 ?_
 refine hp 6 ?_
 refine hp 7 ?_
 refine hp 8 ?_
 refine hp 9 ?_
 refine hp 10 ?_
 refine hp 11 ?_
 refine hp 13 ?_
 refine hp 14 ?_
 refine hp 15 ?_
 refine hp 16 ?_
 refine hp 17 ?_
 refine wpAnyH_take (i:=18) (v:= .agg (r.cells).toArray) rfl (by kernel_rfl) (by kernel_rfl) (by kernel_rfl) (fun _ _ _ h=>h) (yieldsIf_load_mid (by rfl) 59 (.tmp 3) rfl b3 0 rfl (r.cells) _ (fun w h=>h.1) Tryz.underlying59 rfl aS) (by assumption) ?_
 (try go_frame)
 refine wpAnyH_ready (rs:=[12]) (by kernel_rfl) (by simp) ?_
 refine AllReadyH.cons rfl (fun K hK=> ?_) AllReadyH.nil
 go_simp
 refine(gz (.slice sp v.sealed.length sc) v.sealed _ (cH.own (by rw[←HSV.out];exact Hd.out.sealed) rfl) HNS.out).mono ?_
 rintro e we ⟨rfl,hbe⟩
 have He:=Lib.hid (Hd.out.below hbe)
 have HXe:=Lib.hid (HXd.out.below hbe HXd.out.lt)
 have HB4e:=Lib.hid (HB4d.out.below hbe HB4d.out.lt)
 have HBEe:=Lib.hid (HBEd.out.trans (hbe.mono HBEd.out.size))
 clear hbe
 (try go_wp2_with fail)
 refine hK.out _ _ (⟨HXe.out.range,(by rw[←HRV.out];exact He.out.vol.cell (i:=7) rfl),He.out.vol.cell (i:=1) rfl,(by rw[←HSV.out];exact He.out.vol.cell (i:=4) rfl)⟩) (fun hHeld2=> ?_)
 clear hK K hHeld
 have hHeld:=hHeld2
 clear hHeld2
 (try go_frame)
 refine wpAnyH_ready (rs:=[19]) (by kernel_rfl) (by simp) ?_
 refine AllReadyH.cons rfl (fun K hK=> ?_) AllReadyH.nil
 go_simp
 refine(uK v.key (cT v.sealed) (v.sealed.length:Int) r _ HK.out.1 HK.out.2 HF.out.1.1 HF.out.1.2 HF.out.2.1 HF.out.2.2).mono ?_
 rintro e wf ⟨⟨t,rfl,tt⟩,hbf⟩
 have HTT:=Lib.hid tt
 have Hf:=Lib.hid (He.out.below hbf)
 have HXf:=Lib.hid (HXe.out.below hbf HXe.out.lt)
 have HB4f:=Lib.hid (HB4e.out.below hbf HB4e.out.lt)
 have HBEf:=Lib.hid (HBEe.out.trans (hbf.mono HBEe.out.size))
 clear hbf tt
 (try go_wp2_with fail)
 refine hK.out _ _ (⟨HXf.out.range,(by rw[←HRV.out];exact Hf.out.vol.cell (i:=7) rfl),Hf.out.vol.cell (i:=1) rfl,(by rw[←HSV.out];exact Hf.out.vol.cell (i:=4) rfl)⟩) (fun hHeld2=> ?_)
 clear hK K hHeld
 have hHeld:=hHeld2
 clear hHeld2
 (try go_frame)
 refine hp 20 ?_
 refine wpAnyH_done (by kernel_rfl) ?_ _
 clear hHeld
 go_wp2_with (first
  |((with_reducible refine au 59 (.tmp 3) b3 r.cells 59 _ HXf.out Tryz.underlying59 rfl aS ?hgd ?ho ?hx ?_);(case hgd|ho|hx=>rfl))
  |fail)
 refine(jr r _ HF.out.1.1 HF.out.1.2 HF.out.2.1).mono ?_
 rintro e w5 ⟨he,hb5⟩
 obtain⟨q,rfl,tq⟩:∃q,e= .returned (.tuple #[.string q, .int .i64 0])∧ak q (cz r):=by
  rcases he with⟨_,h⟩|⟨h,_⟩
  ·exact h
  ·rw[HRO.out]at h;cases h
 have HTQ:=Lib.hid tq
 have HX5:=Lib.hid (HXf.out.below hb5 HXf.out.lt)
 have HB5:=Lib.hid (HB4f.out.below hb5 HB4f.out.lt)
 have HBE5:=Lib.hid (HBEf.out.trans (hb5.mono HBEf.out.size))
 have hts:t.size=32:=by rw[HTT.out.size,fg]
 have hqs:q.size≤85:=by rw[tq.size];exact cP HRO.out
 have hcat:¬9223372036854775807<q.size+t.size:=by omega
 have HCS:=Lib.hid (show 1≤(q++t).size∧(q++t).size≤4000 from by rw[ByteArray.size_append];omega)
 have HQT:=Lib.hid (show(q++t).data.toList=cz r++t.data.toList from by rw[ByteArray.data_append,Array.toList_append,show q.data.toList= _ from tq])
 clear he hb5 tq hts hqs
 go_wp2_with fail
 refine(hold_walk (q++t) _ HCS.out.1 HCS.out.2).mono ?_
 rintro e w6 ⟨⟨z,rfl,tz⟩,hb6⟩
 have HTZ:=Lib.hid tz
 have HX6:=Lib.hid (HX5.out.below hb6 HX5.out.lt)
 have HB6:=Lib.hid (HB5.out.below hb6 HB5.out.lt)
 have HBE6:=Lib.hid (HBE5.out.trans (hb6.mono HBE5.out.size))
 clear hb6 tz
 go_wp2_with (first
  |((with_reducible refine au 59 (.tmp 3) b3 r.cells 59 _ HX6.out Tryz.underlying59 rfl aS ?hgd ?ho ?hx ?_);(case hgd|ho|hx=>rfl))
  |((with_reducible refine ao 61 ?parts45 (ax.cells ⟨r,t⟩) ?hg ?ho ?hf ?_);(case hg|ho=>rfl);(case hf=>(refine Eq.trans ?_ (Bf r t);kernel_rfl)))
  |((with_reducible refine ae 61 (.tmp 4) (.tmp 45) b4 (ax.cells ⟨Rec.zero,⟨#[]⟩⟩) (ax.cells ⟨r,t⟩) 61 HB6.out rfl mq (nW _) ?hgd ?ho ?hx ?hy ?_);(case hgd|ho|hx|hy=>rfl);(intro w9 B9 o9))
  |fail)
 (try simp only[Exit.inBlock,Exit.then]);refine bodyPost_ret (aL rfl _ _ B9.range rfl Tryz.underlying61 rfl mq) rfl ⟨⟨t,z,rfl,HTT.out,HTZ.out.cast (by rw[HQT.out])⟩,o9.below HBE6.out HL4.out⟩
theorem lR (s:aD) (w:World) (hs:gi s) (hg:s.gen≠1152921504606846976):
  Calls Tryz.prog 207 #[s.v] w fun e w'=>e= .returned (.tuple #[({s with gen:=s.gen+1}:aD).v, .int .i64 0])∧Below w.heap.size w w':=by
 have HS:=Lib.hid hs
 have hq:(s.gen==1152921504606846976)=false:=beq_eq_false_iff_ne.2 hg
 have hb:s.gen+1≤1152921504606846976:=by have:=hs.g1;omega
 have hb0:0≤s.gen:=by have:=hs.g0;omega
 obtain⟨gen,tail,epoch,clock,⟨blocks,lbas,first⟩⟩:=s
 simp only at hq hb hb0
 have HHB:=Lib.hid (And.intro hb hb0)
 have HQ:=Lib.hid hq
 have hw:wrap64 (gen+1)=gen+1:=by unfold wrap64;omega
 clear hs hg hb hb0 hq
 go_enter Tryz.func207,Tryz.ntmps207
 go_wp2_with (first
  |((with_reducible refine ai 174 (.tmp 0) (aD.cells ⟨gen,tail,epoch,clock,⟨blocks,lbas,first⟩⟩) (some 1) ?hgd ?ho ?hd ?hx ?_);(case hgd|ho|hd|hx=>rfl);(intro b1 w1 l1 B1 e1 z1))
  |((with_reducible refine af 174 _ dH (some 2) ?hgd ?ho ?hd ?_);(case hgd|ho|hd=>rfl);(intro b2 w2 l2 B2 e2 z2;have B1':=B1.below e2 (Nat.lt_of_lt_of_le z1 l2)))
  |((with_reducible refine au 174 (.tmp 1) b1 (aD.cells ⟨gen,tail,epoch,clock,⟨blocks,lbas,first⟩⟩) 174 _ B1' Tryz.underlying174 rfl aZ ?hgd ?ho ?hx ?_);(case hgd|ho|hx=>rfl))
  |fail)
 refine(mM ⟨gen,tail,epoch,clock,⟨blocks,lbas,first⟩⟩ _ HS.out).mono ?_
 rintro e w3 ⟨rfl,hb3⟩
 have HB1:=Lib.hid (B1'.below hb3 B1'.lt)
 have HB2:=Lib.hid (B2.below hb3 B2.lt)
 have HL:=Lib.hid (show w.heap.size≤b1∧b1<b2 from⟨l1,by omega⟩)
 have HBE:=Lib.hid (((e1.mono l1).trans (e2.mono (Nat.le_trans l1 (Nat.le_trans (Nat.le_of_lt z1) l2)))).trans (hb3.mono (by omega)))
 have c0:=HB1.out.cell (i:=0) rfl
 have f0:=HB1.out.free 0
 have hq:=HQ.out
 clear hb3 B1 B1' B2 e1 e2 z1 z2 l1 l2
 go_upto_region 7 with fail
 obtain⟨w4,hw4⟩:∃w4,w3.setCell ⟨b1,0,none⟩ (.int .i64 (gen+1))=w4:=⟨_,rfl⟩
 have HB1b:=Lib.hid (show ac w4 b1 (aD.cells ⟨gen+1,tail,epoch,clock,⟨blocks,lbas,first⟩⟩) 174 from by rw[←hw4];exact(HB1.out.set 0 _).ext rfl)
 have HB2b:=Lib.hid (show ac w4 b2 aD.zero.cells 174 from by rw[←hw4];exact HB2.out.set_other (by show b2≠b1;have:=HL.out;omega) _)
 have HBEb:=Lib.hid (show Below w.heap.size w w4 from by rw[←hw4];exact HBE.out.setCell (p:=⟨b1,0,none⟩) HL.out.1 _)
 rw[hw4]
 clear hw4 c0 f0 hq
 go_wp2_with (first
  |((with_reducible refine au 174 (.tmp 1) b1 (aD.cells ⟨gen+1,tail,epoch,clock,⟨blocks,lbas,first⟩⟩) 174 _ HB1b.out Tryz.underlying174 rfl aZ ?hgd ?ho ?hx ?_);(case hgd|ho|hx=>rfl))
  |((with_reducible refine ae 174 (.tmp 2) (.tmp 19) b2 aD.zero.cells (aD.cells ⟨gen+1,tail,epoch,clock,⟨blocks,lbas,first⟩⟩) 174 HB2b.out rfl aZ (dy _) ?hgd ?ho ?hx ?hy ?_);(case hgd|ho|hx|hy=>rfl);(intro w9 B9 o9))
  |fail)
 (try simp only[Exit.inBlock,Exit.then]);refine bodyPost_ret (aL rfl _ _ B9.range rfl Tryz.underlying174 rfl aZ) rfl ⟨rfl,o9.below HBEb.out (by have:=HL.out;omega)⟩
theorem zw (i:aR) (v:bf) (t:Int) (w:World) (h:aP w i v) (h0:v.last.clock≤t) (h1:t≤1099511627776):
  Calls Tryz.prog 192 #[.pointer (some ⟨i.jb,0,none⟩), .int .i64 t] w fun e w'=>e= .returned (.bool true)∧w=w':=by
 have c5:w.cell? ⟨i.jb,5,none⟩=some (.int .i64 v.last.clock):=h.jour.cell (i:=5) rfl
 go_enter Tryz.func192,Tryz.ntmps192
 go_wp2_with fail
 go_ret
 first|exact⟨rfl,rfl⟩|exact⟨cL (by simp;omega),rfl⟩|exact⟨cL (by simp),rfl⟩
theorem zx (i:aR) (v:bf) (t:Int) (w:World) (h:aP w i v) (ok:jt v) (hg:v.last.gen≠1152921504606846976):
  Calls Tryz.prog 191 #[.pointer (some ⟨i.jb,0,none⟩), .int .i64 t] w fun e w'=>e= .returned (.tuple #[(⟨v.last.gen+1,v.used,v.last.epoch,t,v.last.geo⟩:aD).v, .int .i64 0])∧Below w.heap.size w w':=by
 have HN:=Lib.hid (fun(wx:World)=>lR v.last wx ok.sup hg)
 have HOK:=Lib.hid ok
 have H0:=Lib.hid h
 obtain⟨⟨gen,tail,epoch,clock,⟨blocks,lbas,first⟩⟩,hl⟩:∃s,v.last=s:=⟨_,rfl⟩
 have HLA:=Lib.hid hl
 have hR:w.rangeAt i.jb 2 (aD.cells ⟨gen,tail,epoch,clock,⟨blocks,lbas,first⟩⟩):=by have:=mj h.jour;rw[hl]at this;exact this
 have hn:∀wx,Calls Tryz.prog 207 #[.agg #[.int .i64 gen, .int .i64 tail, .int .i64 epoch, .int .i64 clock, .int .i64 blocks, .int .i64 lbas, .int .i64 first]] wx fun e w'=>e= .returned (.tuple #[.agg #[.int .i64 (gen+1), .int .i64 tail, .int .i64 epoch, .int .i64 clock, .int .i64 blocks, .int .i64 lbas, .int .i64 first], .int .i64 0])∧Below wx.heap.size wx w':=by
  intro wx
  have:=HN.out wx
  rw[hl]at this
  exact this
 have HNN:=Lib.hid hn
 rw[hl]
 clear ok hg hl hn h
 go_enter Tryz.func191,Tryz.ntmps191
 go_wp2_with (first
  |((with_reducible refine af 174 _ dH (some 4) ?hgd ?ho ?hd ?_);(case hgd|ho|hd=>rfl);(intro b4 w1 l1 B4 e1 z1;have HR1:=Lib.hid (show w1.rangeAt i.jb 2 (aD.cells ⟨gen,tail,epoch,clock,⟨blocks,lbas,first⟩⟩)from by have:=mj (H0.out.jour.below (e1.mono l1) H0.out.jour.lt);rw[HLA.out]at this;exact this)))
  |((with_reducible refine ag 174 (.tmp 11) i.jb 2 (aD.cells ⟨gen,tail,epoch,clock,⟨blocks,lbas,first⟩⟩) _ (some 12) HR1.out Tryz.underlying174 rfl aZ ?hg ?ho ?hds ?hx ?_);(case ho|hg|hds|hx=>rfl))
  |fail)
 refine(HNN.out _).mono ?_
 rintro e w2 ⟨rfl,hb2⟩
 have HB4:=Lib.hid (B4.below hb2 z1)
 have HL4:=Lib.hid l1
 have HBE2:=Lib.hid ((e1.mono l1).trans (hb2.mono (Nat.le_trans l1 (Nat.le_of_lt z1))))
 clear hb2 B4 e1 z1 l1
 go_upto_region 2 with(first
  |((with_reducible refine af 174 _ dH (some 6) ?hgd ?ho ?hd ?_);(case hgd|ho|hd=>rfl);(intro b6 w3 l6 B6 e6 z6))
  |((with_reducible refine ae 174 (.tmp 6) (.tmp 14) b6 aD.zero.cells (aD.cells ⟨gen+1,tail,epoch,clock,⟨blocks,lbas,first⟩⟩) 174 B6 rfl aZ (dy _) ?hgd ?ho ?hx ?hy ?_);(case hgd|ho|hx|hy=>rfl);(intro w8 B8 o8))
  |fail)
 have HB6:=Lib.hid B8
 have HL6:=Lib.hid (show w.heap.size≤b6∧b4<b6 from⟨Nat.le_trans HBE2.out.size l6,Nat.lt_of_lt_of_le HB4.out.lt l6⟩)
 have HBE3:=Lib.hid (o8.below (HBE2.out.trans (e6.mono (Nat.le_trans HBE2.out.size l6))) HL6.out.1)
 have HB4b:=Lib.hid (o8.blk (HB4.out.below e6 (by have:=HB4.out.lt;omega)) (by have:=HL6.out;omega))
 have H3:=Lib.hid (H0.out.below HBE3.out)
 clear B6 B8 o8 e6 z6 l6
 have c0:=H3.out.jour.cell (i:=0) rfl
 go_wp2_with fail
 refine(rM i.sb v.last.geo v.used _ H3.out.space HOK.out.sup.geo).mono ?_
 rintro e w' ⟨rfl,rfl⟩
 have q1:=HB6.out.cell (i:=1) rfl
 have g1:=HB6.out.free 1
 have q3:=HB6.out.cell (i:=3) rfl
 have g3:=HB6.out.free 3
 clear c0
 go_upto_region 5 with fail
 obtain⟨w9,hw9⟩:∃w9,(w8.setCell ⟨b6,1,none⟩ (.int .i64 v.used)).setCell ⟨b6,3,none⟩ (.int .i64 t)=w9:=⟨_,rfl⟩
 have HB6c:=Lib.hid (show ac w9 b6 (aD.cells ⟨gen+1,v.used,epoch,t,⟨blocks,lbas,first⟩⟩) 174 from by rw[←hw9];exact((HB6.out.set 1 _).set 3 _).ext rfl)
 have HB4c:=Lib.hid (show ac w9 b4 aD.zero.cells 174 from by rw[←hw9];exact(HB4b.out.set_other (by show b4≠b6;have:=HL6.out;omega) _).set_other (by show b4≠b6;have:=HL6.out;omega) _)
 have HBE9:=Lib.hid (show Below w.heap.size w w9 from by rw[←hw9];exact(HBE3.out.setCell (p:=⟨b6,1,none⟩) HL6.out.1 _).setCell (p:=⟨b6,3,none⟩) HL6.out.1 _)
 rw[hw9]
 clear hw9 q1 g1 q3 g3
 go_wp2_with (first
  |((with_reducible refine au 174 (.tmp 6) b6 (aD.cells ⟨gen+1,v.used,epoch,t,⟨blocks,lbas,first⟩⟩) 174 _ HB6c.out Tryz.underlying174 rfl aZ ?hgd ?ho ?hx ?_);(case hgd|ho|hx=>rfl))
  |((with_reducible refine ae 174 (.tmp 4) (.tmp 28) b4 aD.zero.cells (aD.cells ⟨gen+1,v.used,epoch,t,⟨blocks,lbas,first⟩⟩) 174 HB4c.out rfl aZ (dy _) ?hgd ?ho ?hx ?hy ?_);(case hgd|ho|hx|hy=>rfl);(intro w10 B10 o10))
  |fail)
 (try simp only[Exit.inBlock,Exit.then]);refine bodyPost_ret (aL rfl _ _ B10.range rfl Tryz.underlying174 rfl aZ) rfl ⟨rfl,o10.below HBE9.out HL4.out⟩
end Go.Proofs.YtngiibgdgenidaaGreat
