/- Walk of SessionNil. -/
import Derived.Test.YtngiibgdgenidaaGreatQ34
import Derived.Test.YtngiibgdgenidaaGreatQ4
set_option linter.unusedSimpArgs false
set_option linter.unusedVariables false
set_option maxRecDepth 100000
set_option maxHeartbeats 4000000
namespace Go.Proofs.YtngiibgdgenidaaGreat
open Go Go.RowKit
theorem yT (w:World):(Op.equalIn 10000 43 (.agg (eA 1).toArray) (.agg (eA 1).toArray)).run Tryz.prog w= .ok true w:=by kernel_rfl
theorem qD (c:fS) (i n:Int) (there:Bool) (w:World) (hk:c.kn≤9223372036854775807):
  Calls Tryz.prog 3 #[c.v, .int .i64 i, .int .i64 n, .bool there] w fun e w'=>e= .returned (.bool true)∧Below w.heap.size w w':=by
 have HK:=Lib.hid hk
 clear hk
 go_enter Tryz.func3,Tryz.ntmps3
 go_wp2_with (first
  |((with_reducible refine ai 24 (.tmp 0) c.cells (some 4) ?hgd ?ho ?hd ?hx ?_);(case hgd|ho|hd|hx=>rfl);(intro b4 w1 l1 B1 e1 z1))
  |((with_reducible refine ag 24 (.tmp 4) b4 0 (c.cells) _ (some 12) (B1.range) Tryz.underlying24 rfl mG ?hg ?ho ?hds ?hx ?_);(case ho|hg|hds|hx=>rfl))
  |((with_reducible refine bD 26 24 1 ?parts c.cells (.agg #[.int .i64 0, .int .i64 0, .int .i64 0, .int .i64 0, .string ByteArray.empty, .string ByteArray.empty, .slice none 0 0]) 7 88 (some 13) Tryz.underlying26 Ez (by omega) (by omega) ?hgd ?ho ?hd ?hf ?_);(case hgd|ho|hd=>rfl);(case hf=>kernel_rfl);(intro g2 w2 l2 B2 e2 z2))
  |fail)
 have hb2:Below w.heap.size w w2:=(e1.mono l1).trans (e2.mono (Nat.le_trans l1 (Nat.le_trans (Nat.le_of_lt z1) l2)))
 have HBE2:=Lib.hid hb2
 have HB02:=Lib.hid (B1.below e2 (Nat.lt_of_lt_of_le z1 l2))
 have HG2:=Lib.hid B2
 clear B1 e1 z1 l1 B2 e2 z2 l2 hb2
 refine(Da g2 1 c _ HG2.out.range (Nat.le_refl _) HK.out).mono ?_
 rintro e w3 ⟨⟨q,rfl⟩,hb3⟩
 have HE:=Lib.hid (HBE2.out.trans (hb3.mono HBE2.out.size))
 have HB:=Lib.hid (HB02.out.below hb3 HB02.out.lt)
 clear hb3 HBE2 HB02 HG2
 cases q with
 |false=>
  go_wp2_with fail
  refine(kE _).mono ?_
  rintro e w4 ⟨rfl,hb4⟩
  have HBE4:=Lib.hid (HE.out.trans (hb4.mono HE.out.size))
  clear hb4
  go_wp2_with fail
  go_ret
  exact⟨rfl,HBE4.out⟩
 |true=>
  cases there with
  |false=>
   have HN:=Lib.hid (show dM w3 (.pointer none)from .inl rfl)
   go_wp2_with fail
   refine(sn _ n _ HN.out).mono ?_
   rintro e w9 ⟨rfl,hb9⟩
   have HBx:=Lib.hid (HB.out.below hb9 HB.out.lt)
   have HNx:=Lib.hid (HN.out.below hb9)
   have HEx:=Lib.hid (HE.out.trans (hb9.mono HE.out.size))
   clear hb9 HB HN HE
   have HB:=HBx
   have HN:=HNx
   have HE:=HEx
   clear HBx HNx HEx
   go_wp2_with (first
    |((with_reducible refine ag 24 (.tmp 4) b4 0 (c.cells) _ (some 27) (HB.out.range) Tryz.underlying24 rfl mG ?hg ?ho ?hds ?hx ?_);(case ho|hg|hds|hx=>rfl))
    |fail)
   refine(qC _ c.cells _ HN.out).mono ?_
   rintro e w9 ⟨rfl,hb9⟩
   have HBx:=Lib.hid (HB.out.below hb9 HB.out.lt)
   have HNx:=Lib.hid (HN.out.below hb9)
   have HEx:=Lib.hid (HE.out.trans (hb9.mono HE.out.size))
   clear hb9 HB HN HE
   have HB:=HBx
   have HN:=HNx
   have HE:=HEx
   clear HBx HNx HEx
   go_wp2_with (first
    |((with_reducible refine ao 43 ?partsa (eA 1) ?hg ?ho ?hf ?_);(case hg|ho=>rfl);(case hf=>exact kW 1))
    |((with_reducible refine cQ 43 43 (.tmp 28) (.tmp 29) (eA 1).toArray (eA 1).toArray true (some 30) (by kernel_rfl) (yT _) ?hg ?ho ?hd ?hx ?hy ?_);(case ho|hg|hd|hx|hy=>rfl))
    |fail)
   refine(nG _ _ HN.out).mono ?_
   rintro e w9 ⟨rfl,hb9⟩
   have HBx:=Lib.hid (HB.out.below hb9 HB.out.lt)
   have HNx:=Lib.hid (HN.out.below hb9)
   have HEx:=Lib.hid (HE.out.trans (hb9.mono HE.out.size))
   clear hb9 HB HN HE
   have HB:=HBx
   have HN:=HNx
   have HE:=HEx
   clear HBx HNx HEx
   go_wp2_with fail
   refine(mb _ _ HN.out).mono ?_
   rintro e w9 ⟨rfl,hb9⟩
   have HBx:=Lib.hid (HB.out.below hb9 HB.out.lt)
   have HNx:=Lib.hid (HN.out.below hb9)
   have HEx:=Lib.hid (HE.out.trans (hb9.mono HE.out.size))
   clear hb9 HB HN HE
   have HB:=HBx
   have HN:=HNx
   have HE:=HEx
   clear HBx HNx HEx
   go_wp2_with fail
   refine(mR _ _ HN.out).mono ?_
   rintro e w9 ⟨rfl,hb9⟩
   have HBx:=Lib.hid (HB.out.below hb9 HB.out.lt)
   have HNx:=Lib.hid (HN.out.below hb9)
   have HEx:=Lib.hid (HE.out.trans (hb9.mono HE.out.size))
   clear hb9 HB HN HE
   have HB:=HBx
   have HN:=HNx
   have HE:=HEx
   clear HBx HNx HEx
   go_wp2_with fail
   refine(qB _ _ HN.out).mono ?_
   rintro e w9 ⟨rfl,hb9⟩
   have HBx:=Lib.hid (HB.out.below hb9 HB.out.lt)
   have HNx:=Lib.hid (HN.out.below hb9)
   have HEx:=Lib.hid (HE.out.trans (hb9.mono HE.out.size))
   clear hb9 HB HN HE
   have HB:=HBx
   have HN:=HNx
   have HE:=HEx
   clear HBx HNx HEx
   go_wp2_with fail
   refine(mS _ i _ HN.out).mono ?_
   rintro e w9 ⟨rfl,hb9⟩
   have HBx:=Lib.hid (HB.out.below hb9 HB.out.lt)
   have HNx:=Lib.hid (HN.out.below hb9)
   have HEx:=Lib.hid (HE.out.trans (hb9.mono HE.out.size))
   clear hb9 HB HN HE
   have HB:=HBx
   have HN:=HNx
   have HE:=HEx
   clear HBx HNx HEx
   go_wp2_with fail
   refine(mc _ _ HN.out).mono ?_
   rintro e w9 ⟨rfl,hb9⟩
   have HBx:=Lib.hid (HB.out.below hb9 HB.out.lt)
   have HNx:=Lib.hid (HN.out.below hb9)
   have HEx:=Lib.hid (HE.out.trans (hb9.mono HE.out.size))
   clear hb9 HB HN HE
   have HB:=HBx
   have HN:=HNx
   have HE:=HEx
   clear HBx HNx HEx
   go_wp2_with fail
   refine(o0 _ _ HN.out).mono ?_
   rintro e w9 ⟨rfl,hb9⟩
   have HBx:=Lib.hid (HB.out.below hb9 HB.out.lt)
   have HNx:=Lib.hid (HN.out.below hb9)
   have HEx:=Lib.hid (HE.out.trans (hb9.mono HE.out.size))
   clear hb9 HB HN HE
   have HB:=HBx
   have HN:=HNx
   have HE:=HEx
   clear HBx HNx HEx
   go_wp2_with fail
   refine(kE _).mono ?_
   rintro e w9 ⟨rfl,hb9⟩
   have HEx:=Lib.hid (HE.out.trans (hb9.mono HE.out.size))
   clear hb9
   go_wp2_with fail
   go_ret
   exact⟨rfl,HEx.out⟩
  |true=>
   go_upto_region 6 with(first
    |((with_reducible refine ao 36 ?partsv od ?hg ?ho ?hf ?_);(case hg|ho=>rfl);(case hf=>exact Dc))
    |((with_reducible refine ai 36 (.tmp 18) od (some 19) ?hgd ?ho ?hd ?hx ?_);(case hgd|ho|hd|hx=>rfl);(intro b19 wv lv Bv ev zv))
    |fail)
   have HN:=Lib.hid (show dM wv (.pointer (some ⟨b19,0,none⟩))from .inr ⟨b19,rfl,Bv⟩)
   have hbv:Below w3.heap.size w3 wv:=ev.mono lv
   have HBx:=Lib.hid (HB.out.below hbv HB.out.lt)
   have HEx:=Lib.hid (HE.out.trans (hbv.mono HE.out.size))
   clear HB HE Bv ev zv lv hbv
   have HB:=HBx
   have HE:=HEx
   clear HBx HEx
   go_wp2_with fail
   refine(sn _ n _ HN.out).mono ?_
   rintro e w9 ⟨rfl,hb9⟩
   have HBx:=Lib.hid (HB.out.below hb9 HB.out.lt)
   have HNx:=Lib.hid (HN.out.below hb9)
   have HEx:=Lib.hid (HE.out.trans (hb9.mono HE.out.size))
   clear hb9 HB HN HE
   have HB:=HBx
   have HN:=HNx
   have HE:=HEx
   clear HBx HNx HEx
   go_wp2_with (first
    |((with_reducible refine ag 24 (.tmp 4) b4 0 (c.cells) _ (some 27) (HB.out.range) Tryz.underlying24 rfl mG ?hg ?ho ?hds ?hx ?_);(case ho|hg|hds|hx=>rfl))
    |fail)
   refine(qC _ c.cells _ HN.out).mono ?_
   rintro e w9 ⟨rfl,hb9⟩
   have HBx:=Lib.hid (HB.out.below hb9 HB.out.lt)
   have HNx:=Lib.hid (HN.out.below hb9)
   have HEx:=Lib.hid (HE.out.trans (hb9.mono HE.out.size))
   clear hb9 HB HN HE
   have HB:=HBx
   have HN:=HNx
   have HE:=HEx
   clear HBx HNx HEx
   go_wp2_with (first
    |((with_reducible refine ao 43 ?partsa (eA 1) ?hg ?ho ?hf ?_);(case hg|ho=>rfl);(case hf=>exact kW 1))
    |((with_reducible refine cQ 43 43 (.tmp 28) (.tmp 29) (eA 1).toArray (eA 1).toArray true (some 30) (by kernel_rfl) (yT _) ?hg ?ho ?hd ?hx ?hy ?_);(case ho|hg|hd|hx|hy=>rfl))
    |fail)
   refine(nG _ _ HN.out).mono ?_
   rintro e w9 ⟨rfl,hb9⟩
   have HBx:=Lib.hid (HB.out.below hb9 HB.out.lt)
   have HNx:=Lib.hid (HN.out.below hb9)
   have HEx:=Lib.hid (HE.out.trans (hb9.mono HE.out.size))
   clear hb9 HB HN HE
   have HB:=HBx
   have HN:=HNx
   have HE:=HEx
   clear HBx HNx HEx
   go_wp2_with fail
   refine(mb _ _ HN.out).mono ?_
   rintro e w9 ⟨rfl,hb9⟩
   have HBx:=Lib.hid (HB.out.below hb9 HB.out.lt)
   have HNx:=Lib.hid (HN.out.below hb9)
   have HEx:=Lib.hid (HE.out.trans (hb9.mono HE.out.size))
   clear hb9 HB HN HE
   have HB:=HBx
   have HN:=HNx
   have HE:=HEx
   clear HBx HNx HEx
   go_wp2_with fail
   refine(mR _ _ HN.out).mono ?_
   rintro e w9 ⟨rfl,hb9⟩
   have HBx:=Lib.hid (HB.out.below hb9 HB.out.lt)
   have HNx:=Lib.hid (HN.out.below hb9)
   have HEx:=Lib.hid (HE.out.trans (hb9.mono HE.out.size))
   clear hb9 HB HN HE
   have HB:=HBx
   have HN:=HNx
   have HE:=HEx
   clear HBx HNx HEx
   go_wp2_with fail
   refine(qB _ _ HN.out).mono ?_
   rintro e w9 ⟨rfl,hb9⟩
   have HBx:=Lib.hid (HB.out.below hb9 HB.out.lt)
   have HNx:=Lib.hid (HN.out.below hb9)
   have HEx:=Lib.hid (HE.out.trans (hb9.mono HE.out.size))
   clear hb9 HB HN HE
   have HB:=HBx
   have HN:=HNx
   have HE:=HEx
   clear HBx HNx HEx
   go_wp2_with fail
   refine(mS _ i _ HN.out).mono ?_
   rintro e w9 ⟨rfl,hb9⟩
   have HBx:=Lib.hid (HB.out.below hb9 HB.out.lt)
   have HNx:=Lib.hid (HN.out.below hb9)
   have HEx:=Lib.hid (HE.out.trans (hb9.mono HE.out.size))
   clear hb9 HB HN HE
   have HB:=HBx
   have HN:=HNx
   have HE:=HEx
   clear HBx HNx HEx
   go_wp2_with fail
   refine(mc _ _ HN.out).mono ?_
   rintro e w9 ⟨rfl,hb9⟩
   have HBx:=Lib.hid (HB.out.below hb9 HB.out.lt)
   have HNx:=Lib.hid (HN.out.below hb9)
   have HEx:=Lib.hid (HE.out.trans (hb9.mono HE.out.size))
   clear hb9 HB HN HE
   have HB:=HBx
   have HN:=HNx
   have HE:=HEx
   clear HBx HNx HEx
   go_wp2_with fail
   refine(o0 _ _ HN.out).mono ?_
   rintro e w9 ⟨rfl,hb9⟩
   have HBx:=Lib.hid (HB.out.below hb9 HB.out.lt)
   have HNx:=Lib.hid (HN.out.below hb9)
   have HEx:=Lib.hid (HE.out.trans (hb9.mono HE.out.size))
   clear hb9 HB HN HE
   have HB:=HBx
   have HN:=HNx
   have HE:=HEx
   clear HBx HNx HEx
   go_wp2_with fail
   refine(kE _).mono ?_
   rintro e w9 ⟨rfl,hb9⟩
   have HEx:=Lib.hid (HE.out.trans (hb9.mono HE.out.size))
   clear hb9
   go_wp2_with fail
   go_ret
   exact⟨rfl,HEx.out⟩
end Go.Proofs.YtngiibgdgenidaaGreat
