/- The documents' book (chapter 23): its epoch, its time, a closing. A volume is formatted (chapter 26): Mount, Format. Looks at a volume that is none, and at a disk that is none (chapter 26). The documents' shapes and model (chapters 9, 24): a new one, a closing. -/
import Derived.Test.YtgimkmclgjfddaaGreatQ3
import Derived.Test.YtgimkmclgjfddaaGreatQ7
import Derived.Test.YtgimkmclgjfddaaGreatQ8
import Derived.Test.YtgimkmclgjfddaaGreatQ20
import Derived.Test.YtgimkmclgjfddaaGreatQ9
import Derived.Deep.QuietTactic
import Derived.BigQuiet
import Derived.Test.YtgimkmclgjfddaaGreatQ16
import Derived.Test.YtgimkmclgjfddaaGreatQ15
import Derived.Test.YtgimkmclgjfddaaGreatQ19
import Derived.Test.YtgimkmclgjfddaaGreatQ5
import Derived.Lib.SmallJoins
import Derived.Deep.Fields
set_option linter.unusedSimpArgs false
set_option linter.unusedVariables false
set_option maxRecDepth 100000
set_option maxHeartbeats 4000000
namespace Go.Proofs.YtgimkmclgjfddaaGreat
open Go Go.RowKit
def dO (g:ay) (used clock first:Int) (lv vv:Value):List Value:=[.int .i64 g.blocks, .int .i64 g.lbas, .int .i64 g.first, .int .i64 used, .int .i64 clock, .int .i64 first,lv,vv]
structure dy (w:World) (mb:Nat) (first:Int) (lv:Value) (l:List Rec):Prop where
 c0:w.cell? ⟨mb,5,none⟩=some (.int .i64 first)
 c1:w.cell? ⟨mb,6,none⟩=some lv
 lt:mb<w.heap.size
 row:w.ownsRow 0 25 8 lv l.length (l.flatMap Rec.cells)
theorem lQ (x:Rec):x.cells.length=8:=rfl
theorem dy.below {w w':World} {mb:Nat} {first:Int} {lv:Value} {l:List Rec} (h:dy w mb first lv l) (hb:Below w.heap.size w w'):dy w' mb first lv l:=
 ⟨by rw[hb.cell (by show mb<w.heap.size;exact h.lt)];exact h.c0,by rw[hb.cell (by show mb<w.heap.size;exact h.lt)];exact h.c1,Nat.lt_of_lt_of_le h.lt hb.size,own_below hb h.row⟩
theorem dy.turned {w w':World} {mb rb:Nat} {first:Int} {lv:Value} {l:List Rec} (h:dy w mb first lv l) (t:aa [rb] w w') (n1:mb≠rb) (n2:∀k,lv.ownBlock=some k→k≠rb):dy w' mb first lv l:=
 ⟨by rw[t.cell h.lt (by simpa using n1)];exact h.c0,by rw[t.cell h.lt (by simpa using n1)];exact h.c1,Nat.lt_of_lt_of_le h.lt t.size,ak h.row t (fun k hk hm=>n2 k hk (by simpa using hm))⟩
def bh (first:Int) (l:List Rec):Int:=first+((l.filter fun r=>decide (r.kind=1)).length:Int)
theorem zu {first:Int} {l:List Rec} {k:Nat} {x:Rec} (hx:l[k]?=some x) (h:x.kind=1):bh first (l.take (k+1))=bh first (l.take k)+1:=by
 obtain⟨h1,h2⟩:=List.getElem?_eq_some_iff.1 hx
 unfold bh
 rw[List.take_succ_eq_append_getElem h1,List.filter_append,List.length_append,h2]
 simp[h]
 omega
theorem BP {first:Int} {l:List Rec} {k:Nat} {x:Rec} (hx:l[k]?=some x) (h:¬x.kind=1):bh first (l.take (k+1))=bh first (l.take k):=by
 obtain⟨h1,h2⟩:=List.getElem?_eq_some_iff.1 hx
 unfold bh
 rw[List.take_succ_eq_append_getElem h1,List.filter_append,List.length_append,h2]
 simp[h]
theorem kR (first:Int) (l:List Rec):first≤bh first l∧bh first l≤first+l.length:=by
 unfold bh
 have:=List.length_filter_le (fun r:Rec=>decide (r.kind=1)) l
 omega
theorem jp (mb:Nat) (first:Int) (lv:Value) (l:List Rec) (w:World) (h:dy w mb first lv l) (f0:0≤first) (f1:first≤4294967295) (hn:l.length≤1048576):
  Calls Tryz.prog 71 #[.pointer (some ⟨mb,5,none⟩)] w fun e w'=>e= .returned (.int .i64 (bh first l))∧w=w':=by
 obtain⟨p,cp,hs⟩:=aT h.row
 have HR:=Lib.hid h.row
 have c5:=h.c0
 have c6:=h.c1
 rw[hs]at c6
 have HS:=Lib.hid hs
 have HF:=Lib.hid (show 0≤first∧first≤4294967295∧l.length≤1048576 from⟨f0,f1,hn⟩)
 obtain⟨n,hnl⟩:∃n,l.length=n:=⟨_,rfl⟩
 rw[hnl]at c6
 have HN:=Lib.hid hnl
 have hnb:n≤1048576:=by omega
 clear h hs f0 f1 hn hnl
 go_enter Tryz.func71,Tryz.ntmps71
 go_wp2_with fail
 go_loopw [3,4] (fun vn vi wr=>∃k:Nat,k≤n∧vi= .int .i64 k∧vn= .int .i64 (bh first (l.take k))∧wr=w) (fun _ vi _=>n-(intOf vi).toNat)
 case atStart=>exact⟨0,Nat.zero_le _,rfl,by simp[bh],rfl⟩
 case round=>
  obtain⟨k,hk,rfl,rfl,rfl⟩:=hrel
  by_cases hlt:k<n
  ·have hlt':(k:Int)<(n:Int):=by omega
   obtain⟨x,hx⟩:∃x,l[k]?=some x:=⟨_,List.getElem?_eq_getElem (by have:=HN.out;omega)⟩
   obtain⟨g,cap,he,hgl,hr⟩:=kz lQ HR.out hx (by have:=HN.out;omega)
   rw[HS.out]at he
   injection he with he _ hcc
   subst he hcc
   have HX:=Lib.hid hx
   have x0:wr.cell? ⟨g,k*8,none⟩=some (.int .i64 x.kind):=hr 0 _ rfl
   have HE:=Lib.hid (kR first (l.take k))
   have HL:=Lib.hid (show(l.take k).length≤1048576 from by rw[List.length_take];have:=HF.out.2.2;omega)
   clear hr hx hgl
   by_cases hx1:x.kind=1
   ·have hx1':(x.kind==1)=true:=beq_iff_eq.2 hx1
    have hw:IntKind.i64.wrap (bh first (l.take k)+1)=bh first (l.take k)+1:=IntWalk.i64_in _ (by have:=HE.out;have:=HF.out;have:=HL.out;omega)
    go_wp2_with fail
    go_roundw
    case rel=>exact⟨k+1,by omega,by go_num,by rw[zu HX.out hx1],by first|rfl|trivial⟩
    case measure=>simp[intOf];omega
   ·have hx1':(x.kind==1)=false:=beq_eq_false_iff_ne.2 hx1
    go_wp2_with fail
    go_roundw
    case rel=>exact⟨k+1,by omega,by go_num,by rw[BP HX.out hx1],by first|rfl|trivial⟩
    case measure=>simp[intOf];omega
  ·obtain rfl:k=n:=by omega
   go_wp2_with fail
   go_ret
   exact⟨by first|rfl|(rw[List.take_of_length_le (by rw[HN.out];exact Nat.le_refl _)];rfl),rfl⟩
def iG (l:List Rec):Int:=match l.getLast? with|none=>0|some r=>r.time
theorem BQ (mb:Nat) (first:Int) (lv:Value) (l:List Rec) (w:World) (h:dy w mb first lv l) (hn:l.length≤1048576):
  Calls Tryz.prog 341 #[.pointer (some ⟨mb,5,none⟩)] w fun e w'=>e= .returned (.int .i64 (iG l))∧∃k,w'=w.drewN k:=by
 obtain⟨p,cp,hs⟩:=aT h.row
 have c6:=h.c1
 rw[hs]at c6
 by_cases h0:l.length=0
 ·have h0':(l.length:Int)=0:=by omega
  have hl:l=[]:=List.eq_nil_of_length_eq_zero h0
  rw[h0]at c6
  go_enter Tryz.func341,Tryz.ntmps341
  go_wp2_with fail
  go_ret
  exact⟨by rw[hl];rfl,0,rfl⟩
 ·obtain⟨n,hnl⟩:∃n,l.length=n+1:=⟨l.length-1,by omega⟩
  obtain⟨x,hx⟩:∃x,l[n]?=some x:=⟨_,List.getElem?_eq_getElem (by omega)⟩
  obtain⟨g,cap,he,hgl,hr⟩:=kz lQ h.row hx (by omega)
  rw[hs]at he
  injection he with he _ hcc
  subst he hcc
  have x2:w.cell? ⟨g,n*8+2,none⟩=some (.int .i64 x.time):=hr 2 _ rfl
  have hnw:iG l=x.time:=by
   unfold iG
   rw[List.getLast?_eq_getElem?,hnl,Nat.add_sub_cancel,hx]
  rw[hnl]at c6
  have HN:=Lib.hid (show n+1≤1048576 from by omega)
  have h0':¬((n:Int)+1=0):=by omega
  have hw:IntKind.i64.wrap ((n:Int)+1-1)=(n:Int):=by rw[IntWalk.i64_in _ (by have:=HN.out;omega)];omega
  have hw2:IntKind.i64.wrap (n:Int)=(n:Int):=IntWalk.i64_in _ (by have:=HN.out;omega)
  rw[hnw]
  clear hr hx hgl hnw h hs h0 hnl hn
  go_enter Tryz.func341,Tryz.ntmps341
  go_wp2_with fail
  go_quiet (fail)
  go_wp2_with fail
  go_ret
  exact⟨rfl,_,rfl⟩
theorem qi (mb:Nat) (first:Int) (lv:Value) (l:List Rec) (r:Rec) (w:World) (h:dy w mb first lv l) (f0:0≤first) (f1:first≤4294967295) (hn:l.length≤1048576) (hr:am r=true) (hk:r.kind=1) (he:r.epoch=bh first l) (ht:iG l≤r.time):
  Calls Tryz.prog 269 #[.pointer (some ⟨mb,5,none⟩), .agg r.cells.toArray] w fun e w'=>e= .returned (.int .i64 0)∧Below w.heap.size w w':=by
 obtain⟨E,hE⟩:∃E,bh first l=E:=⟨_,rfl⟩
 obtain⟨T,hT⟩:∃T,iG l=T:=⟨_,rfl⟩
 have HEP:=Lib.hid (fun(wx:World) (hx:dy wx mb first lv l)=>show Calls Tryz.prog 71 #[.pointer (some ⟨mb,5,none⟩)] wx fun e w'=>e= .returned (.int .i64 E)∧wx=w' from by rw[←hE];exact jp mb first lv l wx hx f0 f1 hn)
 have HNO:=Lib.hid (fun(wx:World) (hx:dy wx mb first lv l)=>show Calls Tryz.prog 341 #[.pointer (some ⟨mb,5,none⟩)] wx fun e w'=>e= .returned (.int .i64 T)∧∃k,w'=wx.drewN k from by rw[←hT];exact BQ mb first lv l wx hx hn)
 have HRO:=Lib.hid hr
 have H0:=Lib.hid h
 have hte:¬r.time<T:=by omega
 obtain⟨tm,htm⟩:∃tm,r.time=tm:=⟨_,rfl⟩
 rw[htm]at hte
 have HC1:=Lib.hid (show r.cells[1]?=some (.int .i64 E)from by rw[←hE,←he];rfl)
 have HC0:=Lib.hid (show r.cells[0]?=some (.int .i64 1)from by rw[←hk];rfl)
 have HC2:=Lib.hid (show r.cells[2]?=some (.int .i64 tm)from by rw[←htm];rfl)
 clear h f0 f1 hn hr hk he ht hE hT htm
 go_enter Tryz.func269,Tryz.ntmps269
 go_wp2_with (first
  |((with_reducible refine ag 25 (.tmp 1) r.cells (some 3) ?hgd ?ho ?hd ?hx ?_);(case hgd|ho|hd|hx=>rfl);(intro b3 w1 l1 B1 e1 z1))
  |((with_reducible refine ae 25 (.tmp 3) b3 0 (r.cells) _ (some 6) (B1.range) Tryz.underlying25 rfl aI ?hg ?ho ?hds ?hx ?_);(case ho|hg|hds|hx=>rfl))
  |fail)
 have HB1:=Lib.hid B1
 have HBE1:=Lib.hid (e1.mono l1)
 have H1:=Lib.hid (H0.out.below (e1.mono l1))
 clear B1 e1 z1 l1
 refine(show Calls Tryz.prog 340 #[.agg r.cells.toArray] w1 _ from me r w1).mono ?_
 rintro e w2 ⟨rfl,hb2⟩
 rw[HRO.out]
 have HB2:=Lib.hid (HB1.out.below hb2 HB1.out.lt)
 have HBE2:=Lib.hid (HBE1.out.trans (hb2.mono HBE1.out.size))
 have H2:=Lib.hid (H1.out.below hb2)
 clear hb2
 go_upto_region 3 with fail
 refine hb (fun wx=>wx.cell? ⟨b3,1,none⟩=some (.int .i64 E)∧wx.cell? ⟨b3,2,none⟩=some (.int .i64 tm)) (⟨HB2.out.drew.cell HC1.out,HB2.out.drew.cell HC2.out⟩) fun hHeld=> ?_
 obtain⟨wn,hwn⟩:∃wn,wn=w2.drew:=⟨_,rfl⟩
 have hbn:Below w2.heap.size w2 wn:=by rw[hwn];exact(Below.refl _ _).drew
 have HBn:=Lib.hid (HB2.out.below hbn HB2.out.lt)
 have HBEn:=Lib.hid (HBE2.out.trans (hbn.mono HBE2.out.size))
 have Hn:=Lib.hid (H2.out.below hbn)
 rw[←hwn]
 rw[←hwn]at hHeld
 clear hwn hbn
 refine hp 0 ?_
 refine hp 1 ?_
 refine hp 2 ?_
 refine hc 3 fun K hK=> ?_
 go_simp
 refine(HEP.out _ Hn.out).mono ?_
 rintro e w' ⟨rfl,rfl⟩
 (try go_wp2_with fail)
 refine hK.out _ _ (⟨HBn.out.cell HC1.out,HBn.out.cell HC2.out⟩) fun _=> ?_
 clear hK K hHeld
 rename_i hHeld
 (try go_frame)
 refine hp 4 ?_
 refine hp 5 ?_
 refine hp 6 ?_
 refine hp 7 ?_
 refine hp 8 ?_
 refine hc 9 fun K hK=> ?_
 go_simp
 refine(HNO.out _ Hn.out).mono ?_
 rintro e wo ⟨rfl,k9,hwo⟩
 have hbo:Below wn.heap.size wn wo:=by rw[hwo];exact Below.drewN (Below.refl _ _) _
 have HBo:=Lib.hid (HBn.out.below hbo HBn.out.lt)
 have HBEo:=Lib.hid (HBEn.out.trans (hbo.mono HBEn.out.size))
 clear hwo hbo
 (try go_wp2_with fail)
 refine hK.out _ _ (⟨HBo.out.cell HC1.out,HBo.out.cell HC2.out⟩) fun _=> ?_
 clear hK K hHeld
 rename_i hHeld
 (try go_frame)
 refine hp 10 ?_
 refine hp 11 ?_
 refine hd ?_
 clear hHeld
 have x0:wo.cell? ⟨b3,0,none⟩=some (.int .i64 1):=HBo.out.cell HC0.out
 go_wp2_with fail
 go_ret
 exact⟨rfl,HBEo.out⟩
theorem u4 (mb:Nat) (first used clock:Int) (g:ay) (lv vv:Value) (l:List Rec) (r:Rec) (w:World) (h:dy w mb first lv l) (hm:ab w mb (dO g used clock first lv vv) 158) (f0:0≤first) (f1:first≤4294967295) (hn:l.length≤1048575) (hr:am r=true) (hk:r.kind=1) (he:r.epoch=bh first l) (ht:iG l≤r.time):
  Calls Tryz.prog 270 #[.pointer (some ⟨mb,5,none⟩), .agg r.cells.toArray] w fun e w'=>e= .returned (.int .i64 0)∧fc w w' mb 6 (dO g used clock first lv vv) 158 25 8 lv (l.length+1) ((l++[r]).flatMap Rec.cells):=by
 have HMAY:=Lib.hid (fun(wx:World) (hx:dy wx mb first lv l)=>qi mb first lv l r wx hx f0 f1 (by omega) hr hk he ht)
 have H0:=Lib.hid h
 have HM0:=Lib.hid hm
 have HNL:=Lib.hid hn
 obtain⟨cs,hcs⟩:∃cs,dO g used clock first lv vv=cs:=⟨_,rfl⟩
 have HCS:=Lib.hid hcs
 rw[hcs]at HM0
 have HC6:=Lib.hid (show cs[6]?=some lv from by rw[←hcs];rfl)
 rw[hcs]
 clear h hm f0 f1 hn hr hk he ht hcs
 go_enter Tryz.func270,Tryz.ntmps270
 go_wp2_with (first
  |((with_reducible refine ag 25 (.tmp 1) r.cells (some 3) ?hgd ?ho ?hd ?hx ?_);(case hgd|ho|hd|hx=>rfl);(intro b3 w1 l1 B1 e1 z1))
  |((with_reducible refine ae 25 (.tmp 3) b3 0 (r.cells) _ (some 7) (B1.range) Tryz.underlying25 rfl aI ?hg ?ho ?hds ?hx ?_);(case ho|hg|hds|hx=>rfl))
  |fail)
 have HX1:=Lib.hid B1
 have HL1:=Lib.hid l1
 have HBE1:=Lib.hid (e1.mono l1)
 have H1:=Lib.hid (H0.out.below (e1.mono l1))
 have HM1:=Lib.hid (HM0.out.below (e1.mono l1) HM0.out.lt)
 clear B1 e1 z1 l1
 refine(HMAY.out _ H1.out).mono ?_
 rintro e w2 ⟨rfl,hb2⟩
 have HXw2:=Lib.hid (HX1.out.below hb2 HX1.out.lt)
 have HBE2:=Lib.hid (HBE1.out.trans (hb2.mono HBE1.out.size))
 have HMw2:=Lib.hid (HM1.out.below hb2 HM1.out.lt)
 have HOw2:=Lib.hid ((H1.out.below hb2).row)
 have HNX:=Lib.hid (show lv.ownBlock≠some b3 from fun e=>by have:=(ap H0.out.row e).lt;have:=HL1.out;omega)
 have HNB:=Lib.hid (show b3≠mb from fun e=>by have:=HM0.out.lt;have:=HL1.out;omega)
 clear hb2
 go_upto_region 3 with fail
 go_cut []from 11 to 20 (fun wx=>fc w2 wx mb 6 cs 158 25 8 lv (l.length+1) ((l++[r]).flatMap Rec.cells))
 case first=>
  refine hb (fun wx=>wx.rangeAt b3 0 r.cells) (HXw2.out.drew.range) fun hHeld=> ?_
  obtain⟨wd,hwd⟩:∃wd,wd=w2.drew:=⟨_,rfl⟩
  have hbd:Below w2.heap.size w2 wd:=by rw[hwd];exact(Below.refl _ _).drew
  have HTw2:=Lib.hid (aa.refl (mb::(lv).ownBlock.toList) w2)
  have HXwd:=Lib.hid (HXw2.out.below hbd HXw2.out.lt)
  have HMwd:=Lib.hid (HMw2.out.below hbd HMw2.out.lt)
  have HOwd:=Lib.hid (own_below hbd HOw2.out)
  have HTwd:=Lib.hid (HTw2.out.trans (aa.of_below hbd (Nat.le_refl _)))
  rw[←hwd]
  rw[←hwd]at hHeld
  clear hwd hbd
  obtain⟨i0,hi,hz0,hz1,hz2⟩:=info_parts qY
  refine hp 0 ?_
  refine hp 1 ?_
  refine hp 2 ?_
  refine hp 3 ?_
  refine hl 5 25 b3 0 (r.cells) (fun w h=>h) Tryz.underlying25 aI ?_
  refine wI 4 6 (fun K hK=> ?_) (fun K hK=> ?_)
  ·have c4:wd.cell? ⟨mb,6,none⟩=some (lv):=HMwd.out.cell (i:=6) HC6.out
   go_simp
   clear c4
   (try go_wp2_with fail)
   refine hK.out _ _ (HXwd.out.range) fun _=> ?_
   clear hK K hHeld
   rename_i hHeld
   (try go_frame)
   refine hc 6 fun K hK=> ?_
   refine dC 153 25 1 _ r.cells (.agg Rec.zero.cells.toArray) 8 80 Tryz.underlying153 qY (by omega) (by omega) rfl (by kernel_rfl) ?_
   intro g8 w8 l8 B8 e8 z8
   have hb8:Below wd.heap.size wd w8:=e8.mono l8
   have HG8:=Lib.hid B8
   have HXw8:=Lib.hid (HXwd.out.below hb8 HXwd.out.lt)
   have HMw8:=Lib.hid (HMwd.out.below hb8 HMwd.out.lt)
   have HOw8:=Lib.hid (own_below hb8 HOwd.out)
   have HTw8:=Lib.hid (HTwd.out.trans (aa.of_below hb8 (Nat.le_refl _)))
   clear B8 e8 z8 hb8 l8
   (try go_wp2_with fail)
   refine hK.out _ _ (HXw8.out.range) fun _=> ?_
   clear hK K hHeld
   rename_i hHeld
   (try go_frame)
   refine hc 7 fun K hK=> ?_
   refine df _ _ 153 rfl i0 (.agg Rec.zero.cells.toArray) 80 Tryz.underlying153 hi hz0 hz1 hz2 rfl (by decide) rfl HOw8.out ⟨g8,0,none⟩ 1 1 r.cells rfl rfl (cd HG8.out) (Rec.cells_one1 r) (by have:=HNL.out;show l.length+1≤maxLen;unfold maxLen;omega) (by have:=HNL.out;show(l.length+1)*80≤140737488355328;omega) (Nat.zero_le _) ?_
   intro v' w9 own9 grow9' near9'
   have grow9:w8.grownBy w9 (lv).ownBlock:=grow9'
   have near9:dY w8 (lv).ownBlock v'.ownBlock:=near9'
   clear grow9' near9'
   obtain⟨p9,q9,hsh⟩:=aT own9
   subst hsh
   have HXw9:=Lib.hid (HXw8.out.grown grow9 (fun e=>HNX.out e.symm))
   have HMw9:=Lib.hid (HMw8.out.grown grow9 (fun e=>absurd (show 25=158 from(ap HOw8.out e.symm).eq HMw8.out.ty) (by decide)))
   have HO9:=Lib.hid own9
   have HNE:=Lib.hid (near9.back HTw8.out.size)
   have HTw9:=Lib.hid (HTw8.out.trans (aa.of_grown grow9 (fun k hk=>by simp[hk])))
   clear own9 grow9 near9
   (try go_wp2_with fail)
   refine hK.out _ _ (HXw9.out.range) fun _=> ?_
   clear hK K hHeld
   rename_i hHeld
   (try go_frame)
   refine hp 8 ?_
   refine hp 9 ?_
   have c4:=HMw9.out.cell (i:=6) HC6.out
   have f4:=HMw9.out.free 6
   refine hc 10 fun K hK=> ?_
   go_simp
   have HXwx:=Lib.hid (HXw9.out.set_other (a:=⟨mb,6,none⟩) (fun e=>HNB.out e) (.slice p9 (l.length+1) q9))
   have HMwx:=Lib.hid (HMw9.out.set 6 (.slice p9 (l.length+1) q9))
   have HTwx:=Lib.hid (HTw9.out.setCell (b:=mb) (.inl (by simp)) 6 (.slice p9 (l.length+1) q9))
   have HOx:=Lib.hid (ak HO9.out ((aa.refl [mb] w9).setCell (b:=mb) (.inl (by simp)) 6 (.slice p9 (l.length+1) q9)) (fun k hk=>(ap HO9.out hk).notin (bC.one HMw9.out.ty) (by decide)))
   clear c4 f4
   (try go_wp2_with fail)
   refine hK.out _ _ (HXwx.out.range) fun _=> ?_
   clear hK K hHeld
   rename_i hHeld
   (try go_frame)
   refine hd ?_
   clear hHeld
   (try go_wp2_with fail)
   go_meet
   exact⟨_,by rw[pD];exact HOx.out,HMwx.out,HTwx.out,HNE.out⟩
  ·refine dC 153 25 1 _ r.cells (.agg Rec.zero.cells.toArray) 8 80 Tryz.underlying153 qY (by omega) (by omega) rfl (by kernel_rfl) ?_
   intro g8 w8 l8 B8 e8 z8
   have hb8:Below wd.heap.size wd w8:=e8.mono l8
   have HG8:=Lib.hid B8
   have HXw8:=Lib.hid (HXwd.out.below hb8 HXwd.out.lt)
   have HMw8:=Lib.hid (HMwd.out.below hb8 HMwd.out.lt)
   have HOw8:=Lib.hid (own_below hb8 HOwd.out)
   have HTw8:=Lib.hid (HTwd.out.trans (aa.of_below hb8 (Nat.le_refl _)))
   clear B8 e8 z8 hb8 l8
   (try go_wp2_with fail)
   refine hK.out _ _ (HXw8.out.range) fun _=> ?_
   clear hK K hHeld
   rename_i hHeld
   (try go_frame)
   refine hc 4 fun K hK=> ?_
   have c4:w8.cell? ⟨mb,6,none⟩=some (lv):=HMw8.out.cell (i:=6) HC6.out
   go_simp
   clear c4
   (try go_wp2_with fail)
   refine hK.out _ _ (HXw8.out.range) fun _=> ?_
   clear hK K hHeld
   rename_i hHeld
   (try go_frame)
   refine hc 7 fun K hK=> ?_
   refine df _ _ 153 rfl i0 (.agg Rec.zero.cells.toArray) 80 Tryz.underlying153 hi hz0 hz1 hz2 rfl (by decide) rfl HOw8.out ⟨g8,0,none⟩ 1 1 r.cells rfl rfl (cd HG8.out) (Rec.cells_one1 r) (by have:=HNL.out;show l.length+1≤maxLen;unfold maxLen;omega) (by have:=HNL.out;show(l.length+1)*80≤140737488355328;omega) (Nat.zero_le _) ?_
   intro v' w9 own9 grow9' near9'
   have grow9:w8.grownBy w9 (lv).ownBlock:=grow9'
   have near9:dY w8 (lv).ownBlock v'.ownBlock:=near9'
   clear grow9' near9'
   obtain⟨p9,q9,hsh⟩:=aT own9
   subst hsh
   have HXw9:=Lib.hid (HXw8.out.grown grow9 (fun e=>HNX.out e.symm))
   have HMw9:=Lib.hid (HMw8.out.grown grow9 (fun e=>absurd (show 25=158 from(ap HOw8.out e.symm).eq HMw8.out.ty) (by decide)))
   have HO9:=Lib.hid own9
   have HNE:=Lib.hid (near9.back HTw8.out.size)
   have HTw9:=Lib.hid (HTw8.out.trans (aa.of_grown grow9 (fun k hk=>by simp[hk])))
   clear own9 grow9 near9
   (try go_wp2_with fail)
   refine hK.out _ _ (HXw9.out.range) fun _=> ?_
   clear hK K hHeld
   rename_i hHeld
   (try go_frame)
   refine hp 8 ?_
   refine hp 9 ?_
   have c4:=HMw9.out.cell (i:=6) HC6.out
   have f4:=HMw9.out.free 6
   refine hc 10 fun K hK=> ?_
   go_simp
   have HXwx:=Lib.hid (HXw9.out.set_other (a:=⟨mb,6,none⟩) (fun e=>HNB.out e) (.slice p9 (l.length+1) q9))
   have HMwx:=Lib.hid (HMw9.out.set 6 (.slice p9 (l.length+1) q9))
   have HTwx:=Lib.hid (HTw9.out.setCell (b:=mb) (.inl (by simp)) 6 (.slice p9 (l.length+1) q9))
   have HOx:=Lib.hid (ak HO9.out ((aa.refl [mb] w9).setCell (b:=mb) (.inl (by simp)) 6 (.slice p9 (l.length+1) q9)) (fun k hk=>(ap HO9.out hk).notin (bC.one HMw9.out.ty) (by decide)))
   clear c4 f4
   (try go_wp2_with fail)
   refine hK.out _ _ (HXwx.out.range) fun _=> ?_
   clear hK K hHeld
   rename_i hHeld
   (try go_frame)
   refine hd ?_
   clear hHeld
   (try go_wp2_with fail)
   go_meet
   exact⟨_,by rw[pD];exact HOx.out,HMwx.out,HTwx.out,HNE.out⟩
 case rest=>
  have HCUT:=Lib.hid hcut
  clear hcut
  go_wp2_with fail
  go_ret
  exact⟨rfl,HCUT.out.lead HBE2.out⟩
theorem xn (db n ep:Nat) (lbas:Int) (v:Value) (key data kb q:ByteArray) (w:World) (hg:cM ⟨(n:Int),lbas,(ep:Int)⟩) (hk:key.size=32) (tk:aj kb (eX (ep:Int) key.data.toList)) (tq:aj q (eb ⟨1,0,ep,0,⟨(n:Int),lbas,(ep:Int)⟩⟩))
  (hdata:data.size=16) (h:aD w db (bO n v (2+ep % 2) kb q)):
  Calls Tryz.prog 59 #[.pointer (some ⟨db,0,none⟩), .string data] w fun e w'=>(∃vb jb sb xb bb cb c2 m1 m2 m3,e= .returned (.tuple #[.pointer (some ⟨vb,0,none⟩), .int .i64 0])∧eP w' w.heap.size vb jb sb db xb bb cb c2 m1 m2 m3 none key data 1 0 n lbas ep ep (bO n v (2+ep % 2) kb q))∧Below w.heap.size w w':=by
 have HM:=Lib.hid (yY db n ep none lbas v key data kb q w hg hk tk tq hdata h)
 clear h hdata tq tk hk hg
 go_enter Tryz.func59,Tryz.ntmps59
 go_wp2_with fail
 refine HM.out.mono ?_
 rintro e w1 ⟨⟨vb,jb,sb,xb,bb,cb,c2,m1,m2,m3,rfl,hv⟩,hb⟩
 have HV:=Lib.hid hv
 have HB:=Lib.hid hb
 clear hv hb
 go_wp2_with fail
 go_ret2
 exact⟨⟨vb,jb,sb,xb,bb,cb,c2,m1,m2,m3,rfl,HV.out⟩,HB.out⟩
theorem u5 (db n ep:Nat) (lbas:Int) (v:Value) (root:ByteArray) (w:World) (hg:cM ⟨(n:Int),lbas,(ep:Int)⟩) (hr:root.size=32) (h:aD w db (aU n v)):
  Calls Tryz.prog 33 #[.pointer (some ⟨db,0,none⟩),(⟨(n:Int),lbas,(ep:Int)⟩:ay).v, .string root] w fun e w'=>∃(vb jb sb xb bb cb c2 m1 m2 m3:Nat) (key data kb q:ByteArray),e= .returned (.tuple #[.pointer (some ⟨vb,0,none⟩), .int .i64 0])∧
   aj data (nX root.data.toList [100,97,116,97] 16)∧aj key (eJ root.data.toList [115,101,97,108] [ep])∧aj kb (eX (ep:Int) key.data.toList)∧aj q (eb ⟨1,0,ep,0,⟨(n:Int),lbas,(ep:Int)⟩⟩)∧
   aZ w w' db (aU n v) (bO n v (2+ep % 2) kb q)∧eP w' w.heap.size vb jb sb db xb bb cb c2 m1 m2 m3 none key data 1 0 n lbas ep ep (bO n v (2+ep % 2) kb q):=by
 obtain⟨g,Hg⟩:∃g,Hid (g=(⟨(n:Int),lbas,(ep:Int)⟩:ay)):=⟨_,rfl⟩
 have HGF:=Lib.hid (show g.first=(ep:Int) by rw[Hg.out])
 have HDw:=Lib.hid h
 have HG0:=Lib.hid hg
 have HEP:=Lib.hid (show(ep:Int)≤4294967295 from by have:=hg.f1;simp only at this;omega)
 have HR:=Lib.hid hr
 have hfo:∀(wx:World) (key:ByteArray),key.size=32→aD wx db (aU n v)→Calls Tryz.prog 58 #[.pointer (some ⟨db,0,none⟩), .agg g.cells.toArray, .string key] wx fun e w'=>e= .returned (.int .i64 0)∧∃kb q,aj kb (eX (ep:Int) key.data.toList)∧aj q (eb ⟨1,0,ep,0,(⟨(n:Int),lbas,(ep:Int)⟩:ay)⟩)∧aZ wx w' db (aU n v) (bO n v (2+ep % 2) kb q):=by
  intro wx key hk hx
  rw[Hg.out]
  exact wK db n ep lbas v key wx hx hg hk
 have HFO:=Lib.hid hfo
 rw[←Hg.out]
 have HGG:=Lib.hid (show cM g from by rw[Hg.out];exact hg)
 clear h hg hr hfo
 go_enter Tryz.func33,Tryz.ntmps33
 go_wp2_with (first
  |((with_reducible refine ag 69 (.tmp 1) g.cells (some 4) ?hgd ?ho ?hd ?hx ?_);(case hgd|ho|hd|hx=>rfl);(intro b4 wa l4 B4 e4 z4))
  |fail)
 have HBEa:=Lib.hid (e4.mono l4)
 have HBa:=Lib.hid B4
 have HL4:=Lib.hid l4
 have HDa:=Lib.hid (HDw.out.below HBEa.out)
 clear B4 e4 z4 l4
 refine(vZ root _).mono ?_
 rintro e wb ⟨he,hbb⟩
 obtain⟨data,rfl,td⟩:=he.yes HR.out
 have HTD:=Lib.hid td
 have HBb:=Lib.hid (HBa.out.below hbb HBa.out.lt)
 have HBEb:=Lib.hid (HBEa.out.trans (hbb.mono HBEa.out.size))
 have HDb:=Lib.hid (HDa.out.below hbb)
 clear hbb td he
 go_wp2_with (first
  |((with_reducible refine ar 69 (.tmp 4) b4 g.cells 69 _ HBb.out Tryz.underlying69 rfl bu ?hgd ?ho ?hx ?_);(case hgd|ho|hx=>rfl))
  |fail)
 refine(eo g _ HGG.out).mono ?_
 rintro e wc ⟨rfl,hbc⟩
 have HBc:=Lib.hid (HBb.out.below hbc HBb.out.lt)
 have HBEc:=Lib.hid (HBEb.out.trans (hbc.mono HBEb.out.size))
 have HDc:=Lib.hid (HDb.out.below hbc)
 have q2:wc.cell? ⟨b4,2,none⟩=some (.int .i64 (ep:Int)):=by rw[←HGF.out];exact HBc.out.cell (i:=2) rfl
 clear hbc
 go_wp2_with fail
 refine(tj root (ep:Int) _).mono ?_
 rintro e wd ⟨he,hbd⟩
 obtain⟨key,rfl,tk⟩:=he.yes ⟨by omega,HEP.out,HR.out⟩
 have HTK:=Lib.hid (show aj key (eJ root.data.toList [115,101,97,108] [ep])from tk.cast (by rw[Int.toNat_natCast]))
 have HBd:=Lib.hid (HBc.out.below hbd HBc.out.lt)
 have HBEd:=Lib.hid (HBEc.out.trans (hbd.mono HBEc.out.size))
 have HDd:=Lib.hid (HDc.out.below hbd)
 clear hbd tk he q2
 go_wp2_with (first
  |((with_reducible refine ar 69 (.tmp 4) b4 g.cells 69 _ HBd.out Tryz.underlying69 rfl bu ?hgd ?ho ?hx ?_);(case hgd|ho|hx=>rfl))
  |fail)
 have HKS:=Lib.hid (show key.size=32 from by rw[HTK.out.size,dB])
 have HDS:=Lib.hid (show data.size=16 from by rw[HTD.out.size,u3])
 refine(HFO.out _ key HKS.out HDd.out).mono ?_
 rintro e we ⟨rfl,kb,q,tkb,tq,hdt⟩
 have HTKB:=Lib.hid tkb
 have HTQ:=Lib.hid tq
 have HDT:=Lib.hid hdt
 clear tkb tq hdt
 go_wp2_with fail
 refine(xn db n ep lbas v key data kb q _ HG0.out HKS.out HTKB.out HTQ.out HDS.out HDT.out.at').mono ?_
 rintro e wf ⟨⟨vb,jb,sb,xb,bb,cb,c2,m1,m2,m3,rfl,hv⟩,hbf⟩
 have HV:=Lib.hid hv
 have HDF:=Lib.hid (aZ.ahead HBEd.out (HDT.out.below hbf))
 have HSZ:=Lib.hid (show w.heap.size≤we.heap.size from Nat.le_trans HBEd.out.size HDT.out.turned.size)
 clear hv hbf
 go_wp2_with fail
 go_ret2
 exact⟨vb,jb,sb,xb,bb,cb,c2,m1,m2,m3,key,data,kb,q,rfl,HTD.out,HTK.out,HTKB.out,(by rw[Hg.out];exact HTQ.out),HDF.out,HV.out.lower HSZ.out⟩
def Ff:List Value:=[.int .i64 0, .int .i64 0, .int .i64 0, .int .i64 0, .int .i64 0, .int .i64 0]
def eF (e:Int):List Value:=[.int .i64 e, .string ⟨#[]⟩]++Ff
theorem lR (w:World):(zeroValue 101).run Tryz.prog w= .ok (.agg (eF 0).toArray) w:=by kernel_rfl
theorem fD {e:Int}:(Tryz.prog.info? 101).map (·.size)=some (eF e).length:=by kernel_rfl
theorem lS (e:Int):∀v∈eF e,v.oneCell'=true:=by intro v hv;simp[eF,Ff]at hv;rcases hv with rfl|rfl|rfl<;>rfl
theorem rI (e:Int):Tryz.prog.built 101 [(0, .int .i64 e)]=some (eF e).toArray:=by kernel_rfl
theorem oL (g:ay) (w:World):
  Calls Tryz.prog 106 #[g.v] w fun e w'=>e= .returned (.bool (tM g))∧Below w.heap.size w w':=by
 obtain⟨b,l,f⟩:=g
 go_enter Tryz.func106,Tryz.ntmps106
 go_upto_region 1 with(first
  |((with_reducible refine ag 69 (.tmp 0) (ay.cells ⟨b,l,f⟩) (some 1) ?hgd ?ho ?hd ?hx ?_);(case hgd|ho|hd|hx=>rfl);(intro b1 w1 l1 B1 e1 z1))
  |fail)
 have x0:=B1.cell (i:=0) rfl
 have x1:=B1.cell (i:=1) rfl
 have x2:=B1.cell (i:=2) rfl
 have hbe:=e1.mono l1
 go_wp2_with fail
 all_goals go_ret
 all_goals refine⟨congrArg (fun q=>Ending.returned (Value.bool q)) ?_,hbe⟩
 all_goals unfold tM
 all_goals first|(simp;done)|(simp;omega)
theorem xo (g:ay) (w:World):
  Calls Tryz.prog 30 #[g.v] w fun e w'=>e= .returned (.bool (decide (g.blocks≤48)&&decide (g.lbas≤16)))∧Below w.heap.size w w':=by
 obtain⟨b,l,f⟩:=g
 go_enter Tryz.func30,Tryz.ntmps30
 go_upto_region 1 with(first
  |((with_reducible refine ag 69 (.tmp 0) (ay.cells ⟨b,l,f⟩) (some 1) ?hgd ?ho ?hd ?hx ?_);(case hgd|ho|hd|hx=>rfl);(intro b1 w1 l1 B1 e1 z1))
  |fail)
 have x0:=B1.cell (i:=0) rfl
 have x1:=B1.cell (i:=1) rfl
 have hbe:=e1.mono l1
 go_wp2_with fail
 all_goals go_ret
 all_goals refine⟨congrArg (fun q=>Ending.returned (Value.bool q)) ?_,hbe⟩
 all_goals first|(simp;done)|(simp;omega)
theorem zw (g:ay) (w:World) (hg:cM g):
  Calls Tryz.prog 157 #[g.v] w fun e w'=>e= .returned (.int .i64 (g.blocks-4))∧Below w.heap.size w w':=by
 have hr:=oL g
 rw[se.2 hg]at hr
 have HRG:=Lib.hid hr
 have hb0:=hg.b0
 have hb1:=hg.b1
 have hw:IntKind.i64.wrap (g.blocks-4)=g.blocks-4:=IntWalk.i64_in _ (by omega)
 clear hr hg hb0 hb1
 go_enter Tryz.func157,Tryz.ntmps157
 go_wp2_with (first
  |((with_reducible refine ag 69 (.tmp 0) g.cells (some 1) ?hgd ?ho ?hd ?hx ?_);(case hgd|ho|hd|hx=>rfl);(intro b1 w1 l1 B1 e1 z1))
  |((with_reducible refine ae 69 (.tmp 1) b1 0 (g.cells) _ (some 3) (B1.range) Tryz.underlying69 rfl bu ?hg ?ho ?hds ?hx ?_);(case ho|hg|hds|hx=>rfl))
  |fail)
 refine(HRG.out _).mono ?_
 rintro e w2 ⟨rfl,hb2⟩
 have x0:w2.cell? ⟨b1,0,none⟩=some (.int .i64 g.blocks):=(B1.below hb2 B1.lt).cell (i:=0) rfl
 have hbe:=(e1.mono l1).trans (hb2.mono (e1.mono l1).size)
 go_wp2_with fail
 go_ret
 exact⟨rfl,hbe⟩
structure nv where
 lba:Int
 epoch:Int
 data:ByteArray
def nv.cells (x:nv):List Value:=[.int .i64 x.lba, .int .i64 x.epoch, .string x.data]
structure eY (w:World) (mb:Nat) (g:ay) (used clock first:Int) (lv vv:Value) (l:List Rec) (vs:List nv):Prop where
 blk:ab w mb (dO g used clock first lv vv) 158
 recs:w.ownsRow 0 25 8 lv l.length (l.flatMap Rec.cells)
 vers:w.ownsRow 0 331 3 vv vs.length (vs.flatMap nv.cells)
theorem eY.below {w w':World} {mb:Nat} {g:ay} {used clock first:Int} {lv vv:Value} {l:List Rec} {vs:List nv} (h:eY w mb g used clock first lv vv l vs) (hb:Below w.heap.size w w'):eY w' mb g used clock first lv vv l vs:=
 ⟨h.blk.below hb h.blk.lt,own_below hb h.recs,own_below hb h.vers⟩
theorem eY.book {w:World} {mb:Nat} {g:ay} {used clock first:Int} {lv vv:Value} {l:List Rec} {vs:List nv} (h:eY w mb g used clock first lv vv l vs):dy w mb first lv l:=
 ⟨h.blk.cell (i:=5) rfl,h.blk.cell (i:=6) rfl,h.blk.lt,h.recs⟩
theorem xp (f:Int):Tryz.prog.built 155 [(0, .int .i64 f)]=some ([.int .i64 f, .slice none 0 0]:List Value).toArray:=by kernel_rfl
theorem Eg (b l f:Int):Tryz.prog.built 158 [(0, .agg (ay.cells ⟨b,l,f⟩).toArray),(3, .agg ([.int .i64 f, .slice none 0 0]:List Value).toArray)]=some (dO ⟨b,l,f⟩ 0 0 f (.slice none 0 0) (.slice none 0 0)).toArray:=by kernel_rfl
theorem BR (g:ay) (w:World) (hg:cM g):
  Calls Tryz.prog 52 #[g.v] w fun e w'=>(∃mb,e= .returned (.pointer (some ⟨mb,0,none⟩))∧eY w' mb g 0 0 g.first (.slice none 0 0) (.slice none 0 0) [] []∧w.heap.size≤mb)∧Below w.heap.size w w':=by
 have hr:=oL g
 rw[se.2 hg]at hr
 obtain⟨b,l,f⟩:=g
 have HRG:=Lib.hid hr
 clear hr hg
 go_enter Tryz.func52,Tryz.ntmps52
 go_wp2_with (first
  |((with_reducible refine ag 69 (.tmp 0) (ay.cells ⟨b,l,f⟩) (some 1) ?hgd ?ho ?hd ?hx ?_);(case hgd|ho|hd|hx=>rfl);(intro b1 w1 l1 B1 e1 z1))
  |((with_reducible refine ae 69 (.tmp 1) b1 0 ((ay.cells ⟨b,l,f⟩)) _ (some 3) (B1.range) Tryz.underlying69 rfl bu ?hg ?ho ?hds ?hx ?_);(case ho|hg|hds|hx=>rfl))
  |fail)
 refine(HRG.out _).mono ?_
 rintro e w2 ⟨rfl,hb2⟩
 have HX2:=Lib.hid (B1.below hb2 B1.lt)
 have HBE2:=Lib.hid ((e1.mono l1).trans (hb2.mono (e1.mono l1).size))
 have x2:=HX2.out.cell (i:=2) rfl
 have x0:=HX2.out.cell (i:=0) rfl
 have x1:=HX2.out.cell (i:=1) rfl
 clear B1 e1 z1 l1 hb2
 go_wp2_with (first
  |((with_reducible refine aw 155 ?partsb [.int .i64 f, .slice none 0 0] ?hg ?ho ?hf ?_);(case hg|ho=>rfl);(case hf=>exact xp f))
  |((with_reducible refine aw 158 ?partsm (dO ⟨b,l,f⟩ 0 0 f (.slice none 0 0) (.slice none 0 0)) ?hg ?ho ?hf ?_);(case hg|ho=>rfl);(case hf=>exact Eg b l f))
  |((with_reducible refine ag 158 (.tmp 10) (dO ⟨b,l,f⟩ 0 0 f (.slice none 0 0) (.slice none 0 0)) (some 11) ?hgd ?ho ?hd ?hx ?_);(case hgd|ho|hd|hx=>rfl);(intro b11 w3 l3 B3 e3 z3))
  |fail)
 go_ret
 exact⟨⟨b11,rfl,⟨B3,World.ownsRow_nil _ _ _ _,World.ownsRow_nil _ _ _ _⟩,Nat.le_trans HBE2.out.size l3⟩,HBE2.out.trans (e3.mono (Nat.le_trans HBE2.out.size l3))⟩
def iH:List Value:=[.int .i64 0, .int .i64 0, .string ⟨#[]⟩]
theorem px (w:World):(zeroValue 331).run Tryz.prog w= .ok (.agg iH.toArray) w:=by kernel_rfl
theorem kr:(Tryz.prog.info? 331).map (·.size)=some iH.length:=by kernel_rfl
theorem qZ:∀v∈iH,v.oneCell'=true:=List.all_eq_true.1 (show(iH.all fun v=>v.oneCell')=true from rfl)
theorem BS:Tryz.prog.built 331 []=some iH.toArray:=by kernel_rfl
theorem sK (mb:Nat) (g:ay) (used clock first:Int) (lv vv:Value) (l:List Rec) (lba from_ to_:Int) (w:World) (h:eY w mb g used clock first lv vv l []):
  Calls Tryz.prog 267 #[.pointer (some ⟨mb,0,none⟩), .int .i64 lba, .int .i64 from_, .int .i64 to_] w fun e w'=>e= .returned (.tuple #[.agg iH.toArray, .bool false])∧Below w.heap.size w w':=by
 obtain⟨pv,cv,hs⟩:=aT h.vers
 subst hs
 have H0:=Lib.hid h
 clear h
 go_enter Tryz.func267,Tryz.ntmps267
 go_upto_region 2 with(first
  |((with_reducible refine ai 331 _ px (some 8) ?hgd ?ho ?hd ?_);(case hgd|ho|hd=>rfl);(intro b8 w1 l1 B1 e1 z1))
  |((with_reducible refine aw 331 ?parts iH ?hg ?ho ?hf ?_);(case hg|ho=>rfl);(case hf=>exact BS))
  |((with_reducible refine ai 331 _ px (some 10) ?hgd ?ho ?hd ?_);(case hgd|ho|hd=>rfl);(intro b10 w2 l2 B2 e2 z2))
  |((with_reducible refine af 331 (.tmp 10) (.tmp 13) b10 iH iH 331 B2 rfl kr qZ ?hgd ?ho ?hx ?hy ?_);(case hgd|ho|hx|hy=>rfl);(intro w3 B3 o3))
  |fail)
 have hb2:Below w1.heap.size w1 w2:=e2.mono l2
 have HX8:=Lib.hid (o3.blk (B1.below hb2 B1.lt) (by have:=B1.lt;omega))
 have HX10:=Lib.hid B3
 have HL8:=Lib.hid l1
 have HBE:=Lib.hid (o3.below ((e1.mono l1).trans (hb2.mono (e1.mono l1).size)) (Nat.le_trans (e1.mono l1).size l2))
 have H3:=Lib.hid (H0.out.below HBE.out)
 clear B1 B2 B3 e1 e2 l1 l2 z1 z2 o3 hb2
 have c7:=H3.out.blk.cell (i:=7) rfl
 go_wp2_with fail
 go_loopw [11,12] (fun q i wr=>q= .bool false∧i= .int .i64 0∧wr=w3) (fun _ _ _=>0)
 case atStart=>exact⟨rfl,rfl,rfl⟩
 case round=>
  obtain⟨rfl,rfl,rfl⟩:=hrel
  go_wp2_with (first
   |((with_reducible refine ae 331 (.tmp 10) b10 0 (iH) _ (some 81) (HX10.out.range) Tryz.underlying331 rfl kr ?hg ?ho ?hds ?hx ?_);(case ho|hg|hds|hx=>rfl))
   |((with_reducible refine af 331 (.tmp 8) (.tmp 81) b8 iH iH 331 HX8.out rfl kr qZ ?hgd ?ho ?hx ?hy ?_);(case hgd|ho|hx|hy=>rfl);(intro w4 B4 o4))
   |fail)
  (try simp only[Exit.inBlock,Exit.then]);refine bodyPost_ret (bQ rfl _ _ B4.range rfl Tryz.underlying331 rfl kr) rfl ⟨rfl,o4.below HBE.out HL8.out⟩
open Go.ChangeShapes Go.WideShapes Go.Deep
structure dU where
 kind:Int
 lba:Int
 epoch:Int
 time:Int
 data:ByteArray
 name:ByteArray
 kp:Option Addr
 kn:Nat
 kc:Nat
def dU.cells (c:dU):List Value:=[.int .i64 c.kind, .int .i64 c.lba, .int .i64 c.epoch, .int .i64 c.time, .string c.data, .string c.name, .slice c.kp c.kn c.kc]
def dU.v (c:dU):Value:= .agg c.cells.toArray
section
variable {H:Type} {enc:TypeId×Value→H} {w:World} {base:Nat} {spare:Nat→Bool} {held:Bool}
end
theorem sL (mb:Nat) (g:ay) (used clock first:Int) (lv vv:Value) (l:List Rec) (from_:Int) (w:World) (h:eY w mb g used clock first lv vv l []) (h0:0≤g.lbas) (h1:g.lbas≤4096):
  Calls Tryz.prog 159 #[.pointer (some ⟨mb,0,none⟩), .int .i64 from_] w fun e w'=>e= .returned (.int .i64 0)∧Below w.heap.size w w':=by
 obtain⟨L,hL⟩:∃L:Nat,g.lbas=(L:Int):=⟨g.lbas.toNat,by omega⟩
 have hLb:L≤4096:=by omega
 have HL:=Lib.hid hL
 have H0:=Lib.hid h
 clear h h0 h1 hL
 go_enter Tryz.func159,Tryz.ntmps159
 go_wp2_with fail
 go_loopw [5,6] (fun n i wr=>n= .int .i64 0∧∃k:Nat,k≤L∧i= .int .i64 k∧Hid (Below w.heap.size w wr)) (fun _ i _=>L-(intOf i).toNat)
 case atStart=>exact⟨rfl,0,Nat.zero_le _,rfl,Lib.hid (Below.refl _ _)⟩
 case round=>
  obtain⟨rfl,k,hk,rfl,HB⟩:=hrel
  have HH:=Lib.hid (H0.out.below HB.out)
  have c1:wr.cell? ⟨mb,1,none⟩=some (.int .i64 (L:Int)):=by rw[←HL.out];exact HH.out.blk.cell (i:=1) rfl
  by_cases hlt:k<L
  ·have hlt':(k:Int)<(L:Int):=by omega
   go_wp2_with fail
   refine(sK mb g used clock first lv vv l (k:Int) from_ 4294967295 _ HH.out).mono ?_
   rintro e w1 ⟨rfl,hb1⟩
   have HB1:=Lib.hid (HB.out.trans (hb1.mono HB.out.size))
   clear hb1 c1
   go_wp2_with (first
    |((with_reducible refine ai 331 _ px (some 7) ?hgd ?ho ?hd ?_);(case hgd|ho|hd=>rfl);(intro b7 w2 l2 B2 e2 z2))
    |((with_reducible refine af 331 (.tmp 7) (.tmp 23) b7 iH iH 331 B2 rfl kr qZ ?hgd ?ho ?hx ?hy ?_);(case hgd|ho|hx|hy=>rfl);(intro w3 B3 o3))
    |fail)
   go_roundw
   case rel=>exact⟨rfl,k+1,by omega,by go_num,Lib.hid (HB1.out.trans ((o3.below (e2.mono l2) l2).mono HB1.out.size))⟩
   case measure=>simp[intOf];omega
  ·obtain rfl:k=L:=by omega
   go_wp2_with fail
   go_ret
   exact⟨rfl,HB.out⟩
def Eh (first:Int) (l:List Rec) (clock:Int) (r:Rec):Rec:={r with epoch:=bh first l,time:=clock}
theorem sM (mb:Nat) (g:ay) (used clock first:Int) (lv vv:Value) (l:List Rec) (vs:List nv) (r:Rec) (room:Int) (w:World) (h:eY w mb g used clock first lv vv l vs) (f0:0≤first) (f1:first≤4294967295) (hn:l.length≤1048575) (hr:am (Eh first l clock r)=true) (hk:r.kind=1) (ht:iG l≤clock) (hroom:1≤room) (u0:0≤used) (u1:used≤1048576):
  Calls Tryz.prog 158 #[.pointer (some ⟨mb,0,none⟩), .agg r.cells.toArray, .int .i64 room] w fun e w'=>e= .returned (.int .i64 0)∧∃lv',eY w' mb g (used+1) clock first lv' vv (l++[(Eh first l clock r)]) vs∧aa (mb::lv.ownBlock.toList) w w'∧dY w lv.ownBlock lv'.ownBlock:=by
 have H0:=Lib.hid h
 obtain⟨E,hE⟩:∃E,bh first l=E:=⟨_,rfl⟩
 have HEP:=Lib.hid (fun(wx:World) (hx:dy wx mb first lv l)=>show Calls Tryz.prog 71 #[.pointer (some ⟨mb,5,none⟩)] wx fun e w'=>e= .returned (.int .i64 E)∧wx=w' from by rw[←hE];exact jp mb first lv l wx hx f0 f1 (by omega))
 obtain⟨R,hR⟩:∃R,Eh first l clock r=R:=⟨_,rfl⟩
 have HRC:=Lib.hid (show(r.cells.set 1 (.int .i64 E)).set 2 (.int .i64 clock)=R.cells from by rw[←hR,←hE];rfl)
 rw[hR]at hr
 have hRk:R.kind=1:=by rw[←hR];exact hk
 have hRe:R.epoch=bh first l:=by rw[←hR];rfl
 have hRt:iG l≤R.time:=by rw[←hR];exact ht
 have HMAY:=Lib.hid (fun(wx:World) (hx:dy wx mb first lv l)=>qi mb first lv l R wx hx f0 f1 (by omega) hr hRk hRe hRt)
 have HAPP:=Lib.hid (fun(wx:World) (hx:dy wx mb first lv l) (hm:ab wx mb (dO g used clock first lv vv) 158)=>u4 mb first used clock g lv vv l R wx hx hm f0 f1 hn hr hRk hRe hRt)
 have HRR:=Lib.hid hR
 have hroom':¬room<1:=by omega
 have hwu:IntKind.i64.wrap (used+1)=used+1:=IntWalk.i64_in _ (by omega)
 rw[hR]
 clear h f0 f1 hn hr hk ht hroom u0 u1 hRk hRe hRt hE hR
 go_enter Tryz.func158,Tryz.ntmps158
 go_wp2_with (first
  |((with_reducible refine ag 25 (.tmp 1) r.cells (some 4) ?hgd ?ho ?hd ?hx ?_);(case hgd|ho|hd|hx=>rfl);(intro b4 w1 l1 B1 e1 z1))
  |fail)
 have HL4:=Lib.hid l1
 have HX1:=Lib.hid B1
 have HBE1:=Lib.hid (e1.mono l1)
 have H1:=Lib.hid (H0.out.below (e1.mono l1))
 have HN4:=Lib.hid (show b4≠mb from fun e=>by have:=H0.out.blk.lt;omega)
 clear B1 e1 z1 l1
 refine(HEP.out _ H1.out.book).mono ?_
 rintro e w' ⟨rfl,rfl⟩
 have x1:=HX1.out.cell (i:=1) rfl
 have y1:=HX1.out.free 1
 go_upto_region 2 with fail
 obtain⟨w2,hw2⟩:∃w2,w2=w1.setCell ⟨b4,1,none⟩ (.int .i64 E):=⟨_,rfl⟩
 have B2:ab w2 b4 (r.cells.set 1 (.int .i64 E)) 25:=by rw[hw2];exact HX1.out.set 1 _
 have hb2:Below w.heap.size w w2:=by rw[hw2];exact HBE1.out.setCell (p:=⟨b4,1,none⟩) (by show w.heap.size≤b4;exact HL4.out) _
 rw[←hw2]
 clear hw2 x1 y1
 have x2:=B2.cell (i:=2) rfl
 have y2:=B2.free 2
 have c4:=(H0.out.below hb2).blk.cell (i:=4) rfl
 go_upto_region 3 with fail
 obtain⟨w3,hw3⟩:∃w3,w3=w2.setCell ⟨b4,2,none⟩ (.int .i64 clock):=⟨_,rfl⟩
 have B3:ab w3 b4 ((r.cells.set 1 (.int .i64 E)).set 2 (.int .i64 clock)) 25:=by rw[hw3];exact B2.set 2 _
 have hb3:Below w.heap.size w w3:=by rw[hw3];exact hb2.setCell (p:=⟨b4,2,none⟩) (by show w.heap.size≤b4;exact HL4.out) _
 rw[←hw3]
 clear hw3 x2 y2 c4
 have HX3:=Lib.hid (show ab w3 b4 R.cells 25 from by rw[←HRC.out];exact B3)
 have HBE3:=Lib.hid hb3
 have H3:=Lib.hid (H0.out.below hb3)
 clear B2 B3 hb2 hb3
 refine hb (fun wx=>wx.rangeAt b4 0 R.cells) (HX3.out.drew.range) fun hHeld=> ?_
 obtain⟨wd,hdr⟩:∃wz,wz=w3.drew:=⟨_,rfl⟩
 have hbz:Below w3.heap.size w3 wd:=by rw[hdr];exact(Below.refl _ _).drew
 have HX4:=Lib.hid (HX3.out.below hbz HX3.out.lt)
 have HBE4:=Lib.hid (HBE3.out.trans (hbz.mono HBE3.out.size))
 have H4:=Lib.hid (H3.out.below hbz)
 rw[←hdr]
 rw[←hdr]at hHeld
 clear hdr hbz
 refine hp 0 ?_
 refine hp 1 ?_
 refine hp 2 ?_
 refine hl 3 25 b4 0 (R.cells) (fun w h=>h) Tryz.underlying25 aI ?_
 refine hc 4 fun K hK=> ?_
 go_simp
 refine(HMAY.out _ H4.out.book).mono ?_
 rintro e w5 ⟨rfl,hb5⟩
 have HX5:=Lib.hid (HX4.out.below hb5 HX4.out.lt)
 have HBE5:=Lib.hid (HBE4.out.trans (hb5.mono HBE4.out.size))
 have H5:=Lib.hid (H4.out.below hb5)
 clear hb5
 (try go_wp2_with fail)
 refine hK.out _ _ (HX5.out.range) fun _=> ?_
 clear hK K hHeld
 rename_i hHeld
 (try go_frame)
 refine hp 5 ?_
 refine hd ?_
 clear hHeld
 go_upto_region 8 with fail
 refine hb (fun wx=>wx.rangeAt b4 0 R.cells) (HX5.out.drew.range) fun hHeld=> ?_
 obtain⟨we,hdr⟩:∃wz,wz=w5.drew:=⟨_,rfl⟩
 have hbz:Below w5.heap.size w5 we:=by rw[hdr];exact(Below.refl _ _).drew
 have HX6:=Lib.hid (HX5.out.below hbz HX5.out.lt)
 have HBE6:=Lib.hid (HBE5.out.trans (hbz.mono HBE5.out.size))
 have H6:=Lib.hid (H5.out.below hbz)
 rw[←hdr]
 rw[←hdr]at hHeld
 clear hdr hbz
 refine hp 0 ?_
 refine hp 1 ?_
 refine hp 2 ?_
 refine hl 3 25 b4 0 (R.cells) (fun w h=>h) Tryz.underlying25 aI ?_
 refine hc 4 fun K hK=> ?_
 go_simp
 refine(HAPP.out _ H6.out.book H6.out.blk).mono ?_
 rintro e w8 ⟨rfl,hrp⟩
 obtain⟨lv',own8,blk8,trn8,near8⟩:=(hrp.lead HBE6.out).ex
 have HM8:=Lib.hid (show ab w8 mb (dO g used clock first lv' vv) 158 from blk8)
 have HR8:=Lib.hid own8
 have HT8:=Lib.hid trn8
 have HNE:=Lib.hid near8
 have HV8:=Lib.hid (ak H0.out.vers trn8 (fun k hk hm=>by
  rcases List.mem_cons.1 hm with e|hm
  ·subst e
   exact absurd ((ap H0.out.vers hk).eq H0.out.blk.ty) (by decide)
  ·exact absurd ((ap H0.out.vers hk).eq (ap H0.out.recs (by simpa using hm))) (by decide)))
 have HX8:=Lib.hid ((hrp.ex.choose_spec.2.2.1).blk HX6.out (fun hm=>by
  rcases List.mem_cons.1 hm with e|hm
  ·exact HN4.out e
  ·have h1:=(ap H0.out.recs (show lv.ownBlock=some b4 from by simpa using hm)).lt
   have:=HL4.out
   omega))
 clear hrp own8 blk8 trn8 near8
 (try go_wp2_with fail)
 refine hK.out _ _ (HX8.out.range) fun _=> ?_
 clear hK K hHeld
 rename_i hHeld
 (try go_frame)
 refine hd ?_
 clear hHeld
 have c3:=HM8.out.cell (i:=3) rfl
 have f3:=HM8.out.free 3
 go_wp2_with fail
 go_ret
 refine⟨rfl,lv',⟨HM8.out.set 3 (.int .i64 (used+1)), ?_, ?_⟩, ?_,HNE.out⟩
 ·rw[List.length_append]
  exact ak HR8.out ((aa.refl [mb] w8).setCell (b:=mb) (.inl (by simp)) 3 _) (fun k hk=>(ap HR8.out hk).notin (bC.one HM8.out.ty) (by decide))
 ·exact ak HV8.out ((aa.refl [mb] w8).setCell (b:=mb) (.inl (by simp)) 3 _) (fun k hk=>(ap HV8.out hk).notin (bC.one HM8.out.ty) (by decide))
 ·exact HT8.out.setCell (b:=mb) (.inl (by simp)) 3 _
end Go.Proofs.YtgimkmclgjfddaaGreat
