/- Walk of the documents' Right (chapter 19). Walk of record.Check. Walks of the documents' Ints, Bytes (chapter 01) and Join (chapter 02): rows of numbers and texts that came in. Walks of octet.Pack and the documents' Pack, where all numbers fit. -/
import Derived.Test.YtngiibgdgenidaaGreatQ6
import Derived.Test.YtngiibgdgenidaaGreatQ5
import Derived.Test.YtngiibgdgenidaaGreatQ2
import Derived.OwnWalk
import Derived.RegionTactic
import Derived.ChangeAlike
import Derived.Deep.QuietTactic
import Derived.BigQuiet
import Derived.Deep.RegionHeld3
import Derived.Test.YtngiibgdgenidaaGreatQ4
import Derived.OrdersHeld
import Derived.Deep.RegionLaw
import Derived.Deep.DeepAppendWide
import Derived.Deep.RegionWith
import Derived.Deep.MidRow
set_option linter.unusedSimpArgs false
set_option linter.unusedVariables false
set_option maxRecDepth 100000
set_option maxHeartbeats 4000000
namespace Go.Proofs.YtngiibgdgenidaaGreat
open Go Go.RowKit
def iw (r:Rec):Int:=if aE r then 0 else 2
theorem cM {r:Rec} (h:aE r=false):(2:Int)=iw r:=by unfold iw;rw[h];rfl
theorem da {r:Rec} (h:aE r=true):(0:Int)=iw r:=by unfold iw;rw[h];rfl
theorem aU (s:ByteArray):s=ByteArray.empty↔s.size=0:=by
 constructor
 ·rintro rfl;rfl
 ·intro h
  have:s.data.toList=[]:=List.eq_nil_of_length_eq_zero h
  exact(ak.self s).eq (show ak ByteArray.empty s.data.toList by rw[this];rfl)
theorem Gn (epoch time count target till:Int) (root name:ByteArray) (w:World) (hname:name.size≤1073741824) (hf:Fits epoch):
  Calls Tryz.prog 221 #[.agg #[.int .i64 1, .int .i64 epoch, .int .i64 time, .int .i64 count, .int .i64 target, .int .i64 till, .string root, .string name]] w
   fun e w'=>e= .returned (.int .i64 (iw ⟨1,epoch,time,count,target,till,root,name⟩))∧Below w.heap.size w w':=by
 have z1:=cD root
 have z2:=cD name
 obtain⟨E1,hE1⟩:∃E1:Int,wrap64 (epoch-1)=E1:=⟨_,rfl⟩
 have hE2:epoch=-9223372036854775808∨E1=epoch-1:=by
  by_cases h:epoch=-9223372036854775808
  ·exact .inl h
  ·rw[←hE1,IntWalk.wrap64_in _ (by have:=hf.1;have:=hf.2;omega)];exact .inr rfl
 have HE1:=Lib.hid hE1;clear hE1
 have HE2:=Lib.hid hE2;clear hE2
 obtain⟨B,hB⟩:∃B:Bool,((decide (0≤count)&&decide (count≤4096))&&decide (root.size=32))=B:=⟨_,rfl⟩
 obtain⟨nk,hn⟩:∃b:Bool,dr name.data.toList=b:=⟨_,rfl⟩
 have HB:=Lib.hid hB;clear hB
 have HN:=Lib.hid hn;clear hn
 cases B
 all_goals
  go_enter Tryz.func221,Tryz.ntmps221
  go_wp2_with fail
  refine(Ii epoch time count target till root name _ hname E1 HE1.out).mono ?_
  rintro e w1 ⟨rfl,hb1⟩
  rw[HB.out]
  have hz:w.heap.size<w1.heap.size:=by have:=hb1.size;simp at this;omega
  have hz2:¬w.heap.size=w1.heap.size:=by omega
  have q1:w1.cell? ⟨w.heap.size,1,none⟩=some (.int .i64 epoch):=by rw[hb1.cell (by simp)];simp
  have q2:w1.cell? ⟨w.heap.size,2,none⟩=some (.int .i64 time):=by rw[hb1.cell (by simp)];simp
  have Hb:=Lib.hid hb1;clear hb1
  go_wp2_with (go_at_call 294;refine(bU _ _ _).mono ?_;rintro e w1 ⟨rfl,rfl⟩)
  all_goals go_ret
  all_goals refine⟨oj ?_, ?_⟩
  all_goals first
   |(have hb':=Hb.out;refine((Below.refl w.heap.size w).alloc (Nat.le_refl _) _).trans (hb'.mono (by simp))|>.alloc ?_ _;have:=hb'.size;simp at this ⊢;omega)
   |skip
  all_goals
   have hb:=HB.out
   have hn:=HN.out
   have he2:=HE2.out
   try simp only[aU,Bool.not_eq_true',Bool.not_eq_false',Bool.and_eq_true,Bool.and_eq_false_iff,decide_eq_false_iff_not,decide_eq_true_eq]at*
   first
   |(refine cM ?_;clear hb hn he2 HB HN HE1 HE2;simp[aE,aT, *];done)
   |(refine cM ?_;cases nk<;>simp[aE,aT,hn]at hb ⊢<;>simp only[aU]at*<;>omega)
   |(refine da ?_;cases nk<;>simp[aE,aT,hn]at hb ⊢<;>simp only[aU]at*<;>omega)
   |(refine cM ?_;cases nk<;>simp_all [aE,aT]<;>(try simp only[aU]at*)<;>omega)
   |(refine da ?_;cases nk<;>simp_all [aE,aT]<;>(try simp only[aU]at*)<;>omega)
   |(refine cM ?_;cases nk<;>simp_all [aE,aT];done)
   |(refine da ?_;cases nk<;>simp_all [aE,aT];done)
theorem Gp (epoch time count target till:Int) (root name:ByteArray) (w:World) (hname:name.size≤1073741824) (hf:Fits epoch):
  Calls Tryz.prog 221 #[.agg #[.int .i64 2, .int .i64 epoch, .int .i64 time, .int .i64 count, .int .i64 target, .int .i64 till, .string root, .string name]] w
   fun e w'=>e= .returned (.int .i64 (iw ⟨2,epoch,time,count,target,till,root,name⟩))∧Below w.heap.size w w':=by
 have z1:=cD root
 have z2:=cD name
 obtain⟨E1,hE1⟩:∃E1:Int,wrap64 (epoch-1)=E1:=⟨_,rfl⟩
 have hE2:epoch=-9223372036854775808∨E1=epoch-1:=by
  by_cases h:epoch=-9223372036854775808
  ·exact .inl h
  ·rw[←hE1,IntWalk.wrap64_in _ (by have:=hf.1;have:=hf.2;omega)];exact .inr rfl
 have HE1:=Lib.hid hE1;clear hE1
 have HE2:=Lib.hid hE2;clear hE2
 obtain⟨B,hB⟩:∃B:Bool,((decide (0≤till)&&decide (till≤1099511627776))&&(decide (0≤target)&&decide (target≤E1)))=B:=⟨_,rfl⟩
 obtain⟨nk,hn⟩:∃b:Bool,dr name.data.toList=b:=⟨_,rfl⟩
 have HB:=Lib.hid hB;clear hB
 have HN:=Lib.hid hn;clear hn
 cases B
 all_goals
  go_enter Tryz.func221,Tryz.ntmps221
  go_wp2_with fail
  refine(Ij epoch time count target till root name _ hname E1 HE1.out).mono ?_
  rintro e w1 ⟨rfl,hb1⟩
  rw[HB.out]
  have hz:w.heap.size<w1.heap.size:=by have:=hb1.size;simp at this;omega
  have hz2:¬w.heap.size=w1.heap.size:=by omega
  have q1:w1.cell? ⟨w.heap.size,1,none⟩=some (.int .i64 epoch):=by rw[hb1.cell (by simp)];simp
  have q2:w1.cell? ⟨w.heap.size,2,none⟩=some (.int .i64 time):=by rw[hb1.cell (by simp)];simp
  have Hb:=Lib.hid hb1;clear hb1
  go_wp2_with (go_at_call 294;refine(bU _ _ _).mono ?_;rintro e w1 ⟨rfl,rfl⟩)
  all_goals go_ret
  all_goals refine⟨oj ?_, ?_⟩
  all_goals first
   |(have hb':=Hb.out;refine((Below.refl w.heap.size w).alloc (Nat.le_refl _) _).trans (hb'.mono (by simp))|>.alloc ?_ _;have:=hb'.size;simp at this ⊢;omega)
   |skip
  all_goals
   have hb:=HB.out
   have hn:=HN.out
   have he2:=HE2.out
   try simp only[aU,Bool.not_eq_true',Bool.not_eq_false',Bool.and_eq_true,Bool.and_eq_false_iff,decide_eq_false_iff_not,decide_eq_true_eq]at*
   first
   |(refine cM ?_;clear hb hn he2 HB HN HE1 HE2;simp[aE,aT, *];done)
   |(refine cM ?_;cases nk<;>simp[aE,aT,hn]at hb ⊢<;>simp only[aU]at*<;>omega)
   |(refine da ?_;cases nk<;>simp[aE,aT,hn]at hb ⊢<;>simp only[aU]at*<;>omega)
   |(refine cM ?_;cases nk<;>simp_all [aE,aT]<;>(try simp only[aU]at*)<;>omega)
   |(refine da ?_;cases nk<;>simp_all [aE,aT]<;>(try simp only[aU]at*)<;>omega)
   |(refine cM ?_;cases nk<;>simp_all [aE,aT];done)
   |(refine da ?_;cases nk<;>simp_all [aE,aT];done)
theorem Gq (epoch time count target till:Int) (root name:ByteArray) (w:World) (hname:name.size≤1073741824) (hf:Fits epoch):
  Calls Tryz.prog 221 #[.agg #[.int .i64 5, .int .i64 epoch, .int .i64 time, .int .i64 count, .int .i64 target, .int .i64 till, .string root, .string name]] w
   fun e w'=>e= .returned (.int .i64 (iw ⟨5,epoch,time,count,target,till,root,name⟩))∧Below w.heap.size w w':=by
 have z1:=cD root
 have z2:=cD name
 obtain⟨E1,hE1⟩:∃E1:Int,wrap64 (epoch-1)=E1:=⟨_,rfl⟩
 have hE2:epoch=-9223372036854775808∨E1=epoch-1:=by
  by_cases h:epoch=-9223372036854775808
  ·exact .inl h
  ·rw[←hE1,IntWalk.wrap64_in _ (by have:=hf.1;have:=hf.2;omega)];exact .inr rfl
 have HE1:=Lib.hid hE1;clear hE1
 have HE2:=Lib.hid hE2;clear hE2
 obtain⟨B,hB⟩:∃B:Bool,((decide (0≤till)&&decide (till≤1099511627776))&&(decide (0≤target)&&decide (target≤E1)))=B:=⟨_,rfl⟩
 obtain⟨nk,hn⟩:∃b:Bool,dr name.data.toList=b:=⟨_,rfl⟩
 have HB:=Lib.hid hB;clear hB
 have HN:=Lib.hid hn;clear hn
 cases B
 all_goals
  go_enter Tryz.func221,Tryz.ntmps221
  go_wp2_with fail
  refine(Ik epoch time count target till root name _ hname E1 HE1.out).mono ?_
  rintro e w1 ⟨rfl,hb1⟩
  rw[HB.out]
  have hz:w.heap.size<w1.heap.size:=by have:=hb1.size;simp at this;omega
  have hz2:¬w.heap.size=w1.heap.size:=by omega
  have q1:w1.cell? ⟨w.heap.size,1,none⟩=some (.int .i64 epoch):=by rw[hb1.cell (by simp)];simp
  have q2:w1.cell? ⟨w.heap.size,2,none⟩=some (.int .i64 time):=by rw[hb1.cell (by simp)];simp
  have Hb:=Lib.hid hb1;clear hb1
  go_wp2_with (go_at_call 294;refine(bU _ _ _).mono ?_;rintro e w1 ⟨rfl,rfl⟩)
  all_goals go_ret
  all_goals refine⟨oj ?_, ?_⟩
  all_goals first
   |(have hb':=Hb.out;refine((Below.refl w.heap.size w).alloc (Nat.le_refl _) _).trans (hb'.mono (by simp))|>.alloc ?_ _;have:=hb'.size;simp at this ⊢;omega)
   |skip
  all_goals
   have hb:=HB.out
   have hn:=HN.out
   have he2:=HE2.out
   try simp only[aU,Bool.not_eq_true',Bool.not_eq_false',Bool.and_eq_true,Bool.and_eq_false_iff,decide_eq_false_iff_not,decide_eq_true_eq]at*
   first
   |(refine cM ?_;clear hb hn he2 HB HN HE1 HE2;simp[aE,aT, *];done)
   |(refine cM ?_;cases nk<;>simp[aE,aT,hn]at hb ⊢<;>simp only[aU]at*<;>omega)
   |(refine da ?_;cases nk<;>simp[aE,aT,hn]at hb ⊢<;>simp only[aU]at*<;>omega)
   |(refine cM ?_;cases nk<;>simp_all [aE,aT]<;>(try simp only[aU]at*)<;>omega)
   |(refine da ?_;cases nk<;>simp_all [aE,aT]<;>(try simp only[aU]at*)<;>omega)
   |(refine cM ?_;cases nk<;>simp_all [aE,aT];done)
   |(refine da ?_;cases nk<;>simp_all [aE,aT];done)
theorem Gs (epoch time count target till:Int) (root name:ByteArray) (w:World) (hname:name.size≤1073741824) (hf:Fits epoch):
  Calls Tryz.prog 221 #[.agg #[.int .i64 3, .int .i64 epoch, .int .i64 time, .int .i64 count, .int .i64 target, .int .i64 till, .string root, .string name]] w
   fun e w'=>e= .returned (.int .i64 (iw ⟨3,epoch,time,count,target,till,root,name⟩))∧Below w.heap.size w w':=by
 have z1:=cD root
 have z2:=cD name
 obtain⟨E1,hE1⟩:∃E1:Int,wrap64 (epoch-1)=E1:=⟨_,rfl⟩
 have hE2:epoch=-9223372036854775808∨E1=epoch-1:=by
  by_cases h:epoch=-9223372036854775808
  ·exact .inl h
  ·rw[←hE1,IntWalk.wrap64_in _ (by have:=hf.1;have:=hf.2;omega)];exact .inr rfl
 have HE1:=Lib.hid hE1;clear hE1
 have HE2:=Lib.hid hE2;clear hE2
 obtain⟨B,hB⟩:∃B:Bool,((decide (0≤target)&&decide (target≤E1))&&dr name.data.toList)=B:=⟨_,rfl⟩
 obtain⟨nk,hn⟩:∃b:Bool,dr name.data.toList=b:=⟨_,rfl⟩
 have HB:=Lib.hid hB;clear hB
 have HN:=Lib.hid hn;clear hn
 cases B
 all_goals
  go_enter Tryz.func221,Tryz.ntmps221
  go_wp2_with fail
  refine(Il epoch time count target till root name _ hname E1 HE1.out).mono ?_
  rintro e w1 ⟨rfl,hb1⟩
  rw[HB.out]
  have hz:w.heap.size<w1.heap.size:=by have:=hb1.size;simp at this;omega
  have hz2:¬w.heap.size=w1.heap.size:=by omega
  have q1:w1.cell? ⟨w.heap.size,1,none⟩=some (.int .i64 epoch):=by rw[hb1.cell (by simp)];simp
  have q2:w1.cell? ⟨w.heap.size,2,none⟩=some (.int .i64 time):=by rw[hb1.cell (by simp)];simp
  have Hb:=Lib.hid hb1;clear hb1
  go_wp2_with (go_at_call 294;refine(bU _ _ _).mono ?_;rintro e w1 ⟨rfl,rfl⟩)
  all_goals go_ret
  all_goals refine⟨oj ?_, ?_⟩
  all_goals first
   |(have hb':=Hb.out;refine((Below.refl w.heap.size w).alloc (Nat.le_refl _) _).trans (hb'.mono (by simp))|>.alloc ?_ _;have:=hb'.size;simp at this ⊢;omega)
   |skip
  all_goals
   have hb:=HB.out
   have hn:=HN.out
   have he2:=HE2.out
   try simp only[aU,Bool.not_eq_true',Bool.not_eq_false',Bool.and_eq_true,Bool.and_eq_false_iff,decide_eq_false_iff_not,decide_eq_true_eq]at*
   first
   |(refine cM ?_;clear hb hn he2 HB HN HE1 HE2;simp[aE,aT, *];done)
   |(refine cM ?_;cases nk<;>simp[aE,aT,hn]at hb ⊢<;>simp only[aU]at*<;>omega)
   |(refine da ?_;cases nk<;>simp[aE,aT,hn]at hb ⊢<;>simp only[aU]at*<;>omega)
   |(refine cM ?_;cases nk<;>simp_all [aE,aT]<;>(try simp only[aU]at*)<;>omega)
   |(refine da ?_;cases nk<;>simp_all [aE,aT]<;>(try simp only[aU]at*)<;>omega)
   |(refine cM ?_;cases nk<;>simp_all [aE,aT];done)
   |(refine da ?_;cases nk<;>simp_all [aE,aT];done)
theorem Gt (epoch time count target till:Int) (root name:ByteArray) (w:World) (hname:name.size≤1073741824) (hf:Fits epoch):
  Calls Tryz.prog 221 #[.agg #[.int .i64 4, .int .i64 epoch, .int .i64 time, .int .i64 count, .int .i64 target, .int .i64 till, .string root, .string name]] w
   fun e w'=>e= .returned (.int .i64 (iw ⟨4,epoch,time,count,target,till,root,name⟩))∧Below w.heap.size w w':=by
 have z1:=cD root
 have z2:=cD name
 obtain⟨E1,hE1⟩:∃E1:Int,wrap64 (epoch-1)=E1:=⟨_,rfl⟩
 have hE2:epoch=-9223372036854775808∨E1=epoch-1:=by
  by_cases h:epoch=-9223372036854775808
  ·exact .inl h
  ·rw[←hE1,IntWalk.wrap64_in _ (by have:=hf.1;have:=hf.2;omega)];exact .inr rfl
 have HE1:=Lib.hid hE1;clear hE1
 have HE2:=Lib.hid hE2;clear hE2
 obtain⟨B,hB⟩:∃B:Bool,(dr name.data.toList)=B:=⟨_,rfl⟩
 obtain⟨nk,hn⟩:∃b:Bool,dr name.data.toList=b:=⟨_,rfl⟩
 have HB:=Lib.hid hB;clear hB
 have HN:=Lib.hid hn;clear hn
 cases B
 all_goals
  go_enter Tryz.func221,Tryz.ntmps221
  go_wp2_with fail
  refine(Im epoch time count target till root name _ hname E1 HE1.out).mono ?_
  rintro e w1 ⟨rfl,hb1⟩
  rw[HB.out]
  have hz:w.heap.size<w1.heap.size:=by have:=hb1.size;simp at this;omega
  have hz2:¬w.heap.size=w1.heap.size:=by omega
  have q1:w1.cell? ⟨w.heap.size,1,none⟩=some (.int .i64 epoch):=by rw[hb1.cell (by simp)];simp
  have q2:w1.cell? ⟨w.heap.size,2,none⟩=some (.int .i64 time):=by rw[hb1.cell (by simp)];simp
  have Hb:=Lib.hid hb1;clear hb1
  go_wp2_with (go_at_call 294;refine(bU _ _ _).mono ?_;rintro e w1 ⟨rfl,rfl⟩)
  all_goals go_ret
  all_goals refine⟨oj ?_, ?_⟩
  all_goals first
   |(have hb':=Hb.out;refine((Below.refl w.heap.size w).alloc (Nat.le_refl _) _).trans (hb'.mono (by simp))|>.alloc ?_ _;have:=hb'.size;simp at this ⊢;omega)
   |skip
  all_goals
   have hb:=HB.out
   have hn:=HN.out
   have he2:=HE2.out
   try simp only[aU,Bool.not_eq_true',Bool.not_eq_false',Bool.and_eq_true,Bool.and_eq_false_iff,decide_eq_false_iff_not,decide_eq_true_eq]at*
   first
   |(refine cM ?_;clear hb hn he2 HB HN HE1 HE2;simp[aE,aT, *];done)
   |(refine cM ?_;cases nk<;>simp[aE,aT,hn]at hb ⊢<;>simp only[aU]at*<;>omega)
   |(refine da ?_;cases nk<;>simp[aE,aT,hn]at hb ⊢<;>simp only[aU]at*<;>omega)
   |(refine cM ?_;cases nk<;>simp_all [aE,aT]<;>(try simp only[aU]at*)<;>omega)
   |(refine da ?_;cases nk<;>simp_all [aE,aT]<;>(try simp only[aU]at*)<;>omega)
   |(refine cM ?_;cases nk<;>simp_all [aE,aT];done)
   |(refine da ?_;cases nk<;>simp_all [aE,aT];done)
theorem Gu (kind epoch time count target till:Int) (root name:ByteArray) (w:World) (hname:name.size≤1073741824) (hf:Fits epoch) (k1:¬kind=1) (k2:¬kind=2) (k5:¬kind=5) (k3:¬kind=3) (k4:¬kind=4):
  Calls Tryz.prog 221 #[.agg #[.int .i64 kind, .int .i64 epoch, .int .i64 time, .int .i64 count, .int .i64 target, .int .i64 till, .string root, .string name]] w
   fun e w'=>e= .returned (.int .i64 (iw ⟨kind,epoch,time,count,target,till,root,name⟩))∧Below w.heap.size w w':=by
 have z1:=cD root
 have z2:=cD name
 obtain⟨E1,hE1⟩:∃E1:Int,wrap64 (epoch-1)=E1:=⟨_,rfl⟩
 have hE2:epoch=-9223372036854775808∨E1=epoch-1:=by
  by_cases h:epoch=-9223372036854775808
  ·exact .inl h
  ·rw[←hE1,IntWalk.wrap64_in _ (by have:=hf.1;have:=hf.2;omega)];exact .inr rfl
 have HE1:=Lib.hid hE1;clear hE1
 have HE2:=Lib.hid hE2;clear hE2
 obtain⟨B,hB⟩:∃B:Bool,(false)=B:=⟨_,rfl⟩
 obtain⟨nk,hn⟩:∃b:Bool,dr name.data.toList=b:=⟨_,rfl⟩
 have HB:=Lib.hid hB;clear hB
 have HN:=Lib.hid hn;clear hn
 cases B
 all_goals
  go_enter Tryz.func221,Tryz.ntmps221
  go_wp2_with fail
  refine(Io kind epoch time count target till root name _ hname E1 HE1.out k1 k2 k5 k3 k4).mono ?_
  rintro e w1 ⟨rfl,hb1⟩
  skip
  have hz:w.heap.size<w1.heap.size:=by have:=hb1.size;simp at this;omega
  have hz2:¬w.heap.size=w1.heap.size:=by omega
  have q1:w1.cell? ⟨w.heap.size,1,none⟩=some (.int .i64 epoch):=by rw[hb1.cell (by simp)];simp
  have q2:w1.cell? ⟨w.heap.size,2,none⟩=some (.int .i64 time):=by rw[hb1.cell (by simp)];simp
  have Hb:=Lib.hid hb1;clear hb1
  go_wp2_with (go_at_call 294;refine(bU _ _ _).mono ?_;rintro e w1 ⟨rfl,rfl⟩)
  all_goals go_ret
  all_goals refine⟨oj ?_, ?_⟩
  all_goals first
   |(have hb':=Hb.out;refine((Below.refl w.heap.size w).alloc (Nat.le_refl _) _).trans (hb'.mono (by simp))|>.alloc ?_ _;have:=hb'.size;simp at this ⊢;omega)
   |skip
  all_goals
   have hb:=HB.out
   have hn:=HN.out
   have he2:=HE2.out
   try simp only[aU,Bool.not_eq_true',Bool.not_eq_false',Bool.and_eq_true,Bool.and_eq_false_iff,decide_eq_false_iff_not,decide_eq_true_eq]at*
   first
   |(refine cM ?_;clear hb hn he2 HB HN HE1 HE2;simp[aE,aT, *];done)
   |(refine cM ?_;cases nk<;>simp[aE,aT,hn]at hb ⊢<;>simp only[aU]at*<;>omega)
   |(refine da ?_;cases nk<;>simp[aE,aT,hn]at hb ⊢<;>simp only[aU]at*<;>omega)
   |(refine cM ?_;cases nk<;>simp_all [aE,aT]<;>(try simp only[aU]at*)<;>omega)
   |(refine da ?_;cases nk<;>simp_all [aE,aT]<;>(try simp only[aU]at*)<;>omega)
   |(refine cM ?_;cases nk<;>simp_all [aE,aT];done)
   |(refine da ?_;cases nk<;>simp_all [aE,aT];done)
theorem IntsIn.shape {w:World} {v:Value} {xs:List Int} (h:IntsIn w v xs):∃(p:Option Addr) (c:Nat),v= .slice p xs.length c:=by
 rcases h.row with⟨rfl,p,c,rfl⟩|⟨g,o,c,rfl,_⟩
 ·exact⟨p,c,rfl⟩
 ·exact⟨_,c,rfl⟩
theorem nK.shape {w:World} {v:Value} {xs:List ByteArray} (h:nK w v xs):∃(p:Option Addr) (c:Nat),v= .slice p xs.length c:=by
 rcases h.row with⟨rfl,p,c,rfl⟩|⟨g,o,c,rfl,_⟩
 ·exact⟨p,c,rfl⟩
 ·exact⟨_,c,rfl⟩
def Ds (xs:List ByteArray):Nat:=(xs.map fun x=>min x.size 100000).sum
def gp (ws xs:List Int) (k:Nat):List UInt8:=((ws.zip xs).take k).flatMap fun p=>beBytes p.1.toNat p.2.toNat
def fm (ws xs:List Int):List UInt8:=(ws.zip xs).flatMap fun p=>beBytes p.1.toNat p.2.toNat
theorem pi (ws xs:List Int) (k:Nat) (a x:Int) (ha:ws[k]?=some a) (hx:xs[k]?=some x):gp ws xs (k+1)=gp ws xs k++beBytes a.toNat x.toNat:=by
 have hz:(ws.zip xs)[k]?=some (a,x):=by rw[List.getElem?_zip_eq_some];exact⟨ha,hx⟩
 obtain⟨hk,he⟩:=List.getElem?_eq_some_iff.1 hz
 unfold gp
 rw[List.take_succ_eq_append_getElem hk,List.flatMap_append,he]
 simp
theorem AA (ws xs:List Int) (h:ws.length=xs.length):gp ws xs xs.length=fm ws xs:=by
 unfold gp fm
 rw[List.take_of_length_le (by rw[List.length_zip];omega)]
structure mg (ws xs:List Int):Prop where
 len:ws.length=xs.length
 each:∀(i:Nat) (a x:Int),ws[i]?=some a→xs[i]?=some x→1≤a∧a≤8∧0≤x∧x<9223372036854775808∧x.toNat<256^a.toNat
theorem Dt {ws xs:List Int} (h:mg ws xs) (k:Nat):(gp ws xs k).length≤8*k:=by
 induction k with
 |zero=>simp[gp]
 |succ k ih=>
  by_cases hk:k<xs.length
  ·obtain⟨x,hx⟩:∃x,xs[k]?=some x:=⟨_,List.getElem?_eq_getElem hk⟩
   obtain⟨a,ha⟩:∃x,ws[k]?=some x:=⟨_,List.getElem?_eq_getElem (by rw[h.len];exact hk)⟩
   rw[pi _ _ _ _ _ ha hx,List.length_append,beBytes_length]
   have:=h.each k a x ha hx
   omega
  ·have:gp ws xs (k+1)=gp ws xs k:=by
    unfold gp
    rw[List.take_of_length_le (by rw[List.length_zip];omega),List.take_of_length_le (by rw[List.length_zip];omega)]
   rw[this]
   omega
theorem bF.at {w:World} {v:Value} {xs:List Int} (h:bF w v xs) (hne:0<xs.length):∃g o c,v= .slice (some ⟨g,o,none⟩) xs.length c∧g<w.heap.size∧∀(j:Nat) (x:Int),xs[j]?=some x→w.cell? ⟨g,o+j,none⟩=some (.int .i64 x):=by
 rcases h with⟨rfl,_⟩|h
 ·simp at hne
 ·exact h
theorem gK (v u:Value) (ws xs:List Int) (w:World) (hv:bF w v ws) (hu:bF w u xs) (hne:0<xs.length) (hx:xs.length≤16) (hok:mg ws xs):
  Calls Tryz.prog 179 #[v,u] w fun e w'=>∃r,e= .returned (.tuple #[.string r, .int .i64 0])∧ak r (fm ws xs)∧Below w.heap.size w w':=by
 obtain⟨g,o,c,rfl,hg,hc⟩:=hv.at (by rw[hok.len];exact hne)
 obtain⟨g',o',c',rfl,hg',hc'⟩:=hu.at hne
 obtain⟨n,Hn⟩:∃n,Hid (n=xs.length):=⟨_,rfl⟩
 rw[hok.len,←Hn.out]
 rw[←Hn.out]at hx hne
 have HO:=Lib.hid hok;clear hok
 have HC:=Lib.hid hc;clear hc
 have HC':=Lib.hid hc';clear hc'
 clear hv hu
 go_enter Tryz.func179,Tryz.ntmps179
 go_wp2_with ((with_reducible refine af 219 _ lA (some 6) ?hgd ?ho ?hd ?_);(case hgd|ho|hd=>rfl);(intro b w1 l1 B1 e1 z1))
 have hB1:=fX.new B1
 have hbel:=e1.mono l1
 clear B1 e1 z1
 go_loopw [18] (fun i wr=>∃k:Nat,k≤n∧i= .int .i64 k∧fX wr b (gp ws xs k)∧Below w.heap.size w wr) (fun i _=>n-(intOf i).toNat)
 case atStart=>exact⟨0,by omega,rfl,hB1,hbel⟩
 case round=>
  clear hB1 hbel
  obtain⟨k,hk,rfl,hB,hbel⟩:=hrel
  have HB:=Lib.hid hB;clear hB
  by_cases hlt:k<n
  ·have hlt':(k:Int)<n:=by omega
   obtain⟨x,hxk⟩:∃x,xs[k]?=some x:=⟨_,List.getElem?_eq_getElem (by rw[←Hn.out];exact hlt)⟩
   obtain⟨a,hak⟩:∃x,ws[k]?=some x:=⟨_,List.getElem?_eq_getElem (by rw[HO.out.len,←Hn.out];exact hlt)⟩
   have hcx:wr.cell? ⟨g',o'+k,none⟩=some (.int .i64 x):=by rw[hbel.cell (by show g'<w.heap.size;exact hg')];exact HC'.out k x hxk
   have hca:wr.cell? ⟨g,o+k,none⟩=some (.int .i64 a):=by rw[hbel.cell (by show g<w.heap.size;exact hg)];exact HC.out k a hak
   obtain⟨h1,h2,h3,h4,h5⟩:=HO.out.each k a x hak hxk
   obtain⟨m,rfl⟩:∃m:Nat,x=(m:Int):=⟨x.toNat,by omega⟩
   obtain⟨a',rfl⟩:∃m:Nat,a=(m:Int):=⟨a.toNat,by omega⟩
   have HX:=Lib.hid hxk;clear hxk
   have HA:=Lib.hid hak;clear hak
   have h0:(0:Int)≤(k:Int):=by omega
   go_wp2_with fail
   refine(mC m a' _ (by omega) (by omega) (by omega) (fun _=>by simpa using h5)).mono ?_
   rintro e w3 ⟨r,rfl,tr,hb3⟩
   have hB3:=HB.out.below hb3
   have HB3:=Lib.hid hB3;clear hB3
   have sr:r.size≤8:=by rw[tr.size,beBytes_length];omega
   go_wp2_with fail
   refine(gh b _ r _ HB3.out (by have:=Dt HO.out k;omega)).mono ?_
   rintro e w4 ⟨rfl,hB4,hb4⟩
   have HB4:=Lib.hid hB4;clear hB4
   go_wp2_with fail
   go_roundw
   case rel=>
    refine⟨k+1,by omega,by go_num, ?_,(hbel.trans (hb3.mono hbel.size)).trans (hb4.mono l1)⟩
    have:=HB4.out
    rw[show r.data.toList= _ from tr]at this
    rw[pi _ _ _ _ _ HA.out HX.out,Int.toNat_natCast,Int.toNat_natCast]
    exact this
   case measure=>simp[intOf];omega
  ·obtain rfl:k=n:=by omega
   go_wp2_with fail
   refine(mt b _ _ HB.out).mono ?_
   rintro e w5 ⟨q,rfl,tq,hb5⟩
   go_wp2_with fail
   go_ret2
   exact⟨q,rfl,tq.cast (by rw[Hn.out];exact AA _ _ HO.out.len),hbel.trans (hb5.mono l1)⟩
theorem bP {g:aK}:(Tryz.prog.info? 31).map (·.size)=some g.cells.length:=by kernel_rfl
theorem rH (g:aK):∀v∈g.cells,v.oneCell'=true:=by intro v hv;simp[aK.cells]at hv;rcases hv with rfl|rfl|rfl<;>rfl
theorem eJ (g:aK) (w:World) (hg:dx g):
  Calls Tryz.prog 76 #[g.v] w fun e w'=>e= .returned (.int .i64 0)∧Below w.heap.size w w':=by
 obtain⟨blocks,lbas,first⟩:=g
 obtain⟨h1,h2,h3,h4,h5,h6⟩:=hg
 simp only at h1 h2 h3 h4 h5 h6
 have h6':¬(4294967295:Int)<first:=by omega
 clear h6
 go_enter Tryz.func76,Tryz.ntmps76
 go_wp2_with (first
  |((with_reducible refine ai 31 (.tmp 0) (aK.cells ⟨blocks,lbas,first⟩) (some 1) ?hgd ?ho ?hd ?hx ?_);(case hgd|ho|hd|hx=>rfl);(intro b1 w1 l1 B1 e1 z1);(have c0:=B1.cell (i:=0) rfl);(have c1:=B1.cell (i:=1) rfl);(have c2:=B1.cell (i:=2) rfl))
  |fail)
 go_ret
 exact⟨rfl,e1.mono l1⟩
theorem il (g:aK) (w:World) (hg:dx g):
  Calls Tryz.prog 194 #[g.v] w fun e w'=>e= .returned (.int .i64 (g.blocks-4))∧Below w.heap.size w w':=by
 have h1:=hg.b0
 have h2:=hg.b1
 go_enter Tryz.func194,Tryz.ntmps194
 go_wp2_with (first
  |((with_reducible refine ai 31 (.tmp 0) g.cells (some 1) ?hgd ?ho ?hd ?hx ?_);(case hgd|ho|hd|hx=>rfl);(intro b1 w1 l1 B1 e1 z1))
  |((with_reducible refine ag 31 (.tmp 1) b1 0 g.cells _ (some 3) B1.range Tryz.underlying31 rfl bP ?hg ?ho ?hds ?hx ?_);(case ho|hg|hds|hx=>rfl))
  |fail)
 refine(eJ g _ hg).mono ?_
 rintro e w2 ⟨rfl,hb2⟩
 have c0:=(B1.below hb2 z1).cell (i:=0) rfl
 go_wp2_with fail
 go_ret
 exact⟨rfl,(e1.mono l1).trans (hb2.mono (Nat.le_trans l1 (Nat.le_of_lt z1)))⟩
theorem rI (g:aK) (i:Int) (w:World) (hg:dx g) (h0:0≤i) (h1:i<g.blocks-4):
  Calls Tryz.prog 275 #[g.v, .int .i64 i] w fun e w'=>e= .returned (.tuple #[.int .i64 (4+i), .int .i64 0])∧Below w.heap.size w w':=by
 have h2:=hg.b1
 have hdi:decide (i<0)=false:=decide_eq_false (by omega)
 go_enter Tryz.func275,Tryz.ntmps275
 go_wp2_with (first
  |((with_reducible refine ai 31 (.tmp 0) g.cells (some 2) ?hgd ?ho ?hd ?hx ?_);(case hgd|ho|hd|hx=>rfl);(intro b1 w1 l1 B1 e1 z1))
  |((with_reducible refine ag 31 (.tmp 2) b1 0 g.cells _ (some 10) B1.range Tryz.underlying31 rfl bP ?hg ?ho ?hds ?hx ?_);(case ho|hg|hds|hx=>rfl))
  |(rw[hdi];((with_reducible refine ag 31 (.tmp 2) b1 0 g.cells _ (some 10) B1.range Tryz.underlying31 rfl bP ?hg ?ho ?hds ?hx ?_);(case ho|hg|hds|hx=>rfl)))
  |fail)
 refine(il g _ hg).mono ?_
 rintro e w2 ⟨rfl,hb2⟩
 go_wp2_with fail
 go_ret2
 exact⟨rfl,(e1.mono l1).trans (hb2.mono (Nat.le_trans l1 (Nat.le_of_lt z1)))⟩
theorem gq (n:Int) (w:World) (h:0≤n):
  Calls Tryz.prog 153 #[.int .i64 n] w fun e w'=>e= .returned (.int .i64 (2+n % 2))∧w=w':=by
 go_enter Tryz.func153,Tryz.ntmps153
 go_wp2_with fail
 go_ret
 exact⟨by show Ending.returned (.int .i64 (2+max n 0 % 2))= _;rw[Int.max_eq_left h],rfl⟩
theorem rJ (n:Int) (w:World) (h:0≤n):
  Calls Tryz.prog 256 #[.int .i64 n] w fun e w'=>e= .returned (.int .i64 (n % 2))∧w=w':=by
 go_enter Tryz.func256,Tryz.ntmps256
 go_wp2_with fail
 go_ret
 exact⟨by show Ending.returned (.int .i64 (max n 0 % 2))= _;rw[Int.max_eq_left h],rfl⟩
def fF:List Int:=[4,4,4]
theorem iY (w:World):
  Calls Tryz.prog 365 #[] w fun e w'=>(∃v,e= .returned v∧bF w' v fF)∧Below w.heap.size w w':=by
 go_enter Tryz.func365,Tryz.ntmps365
 go_wp2_with fail
 go_ret
 exact⟨⟨_,rfl,bF.blk (xs:=fF) (ac.new w (fF.map (Value.int .i64)) _) rfl 3⟩,(Below.refl _ _).alloc (Nat.le_refl _) _⟩
theorem yU {g:aK} (h:dx g):mg fF [g.blocks,g.lbas,g.first]:=by
 obtain⟨h1,h2,h3,h4,h5,h6⟩:=h
 have p4:(256:Nat)^4=4294967296:=rfl
 refine⟨rfl,fun i a x ha hx=> ?_⟩
 match i,ha,hx with
 |0,ha,hx=>simp[fF]at ha hx;subst ha;subst hx;simp;omega
 |1,ha,hx=>simp[fF]at ha hx;subst ha;subst hx;simp;omega
 |2,ha,hx=>simp[fF]at ha hx;subst ha;subst hx;simp;omega
theorem sD (g:aK):fm fF [g.blocks,g.lbas,g.first]=iW g:=by simp[fm,fF,iW]
theorem kJ (g:aK) (w:World) (hg:dx g):
  Calls Tryz.prog 325 #[g.v] w fun e w'=>∃r,e= .returned (.tuple #[.string r, .int .i64 0])∧ak r (iW g)∧Below w.heap.size w w':=by
 go_enter Tryz.func325,Tryz.ntmps325
 go_wp2_with (first
  |((with_reducible refine ai 31 (.tmp 0) g.cells (some 1) ?hgd ?ho ?hd ?hx ?_);(case hgd|ho|hd|hx=>rfl);(intro b1 w1 l1 B1 e1 z1))
  |((with_reducible refine ag 31 (.tmp 1) b1 0 g.cells _ (some 5) B1.range Tryz.underlying31 rfl bP ?hg ?ho ?hds ?hx ?_);(case ho|hg|hds|hx=>rfl))
  |fail)
 refine(eJ g _ hg).mono ?_
 rintro e w2 ⟨rfl,hb2⟩
 have HB2:=Lib.hid (B1.below hb2 z1)
 have HBE2:=Lib.hid ((e1.mono l1).trans (hb2.mono (Nat.le_trans l1 (Nat.le_of_lt z1))))
 clear hb2 B1 e1
 go_upto_region 4 with fail
 refine wp_region_held_drew (S:=fun wx=>wx.cell? ⟨b1,0,none⟩=some (.int .i64 g.blocks)∧wx.cell? ⟨b1,1,none⟩=some (.int .i64 g.lbas)∧wx.cell? ⟨b1,2,none⟩=some (.int .i64 g.first)) (by kernel_rfl) (⟨HB2.out.cell (i:=0) rfl,HB2.out.cell (i:=1) rfl,HB2.out.cell (i:=2) rfl⟩) (fun hHeld=> ?_)
 obtain⟨wd,hwd⟩:∃wd,wd=w2.drew:=⟨_,rfl⟩
 have HBwd:Hid (ac wd b1 g.cells 31):=Lib.hid (by rw[hwd];exact HB2.out.drew)
 have HBEwd:Hid (Below w.heap.size w wd):=Lib.hid (by rw[hwd];exact HBE2.out.drew)
 rw[←hwd]
 rw[←hwd]at hHeld
 clear hwd
 refine hp 1 ?_
 refine hp 2 ?_
 refine hp 3 ?_
 refine hp 4 ?_
 refine hp 5 ?_
 refine hp 6 ?_
 refine wpAnyH_ready (rs:=[0,7]) (by kernel_rfl) (by simp) ?_
 refine AllReadyH.cons rfl (fun K hK=> ?_) (AllReadyH.cons rfl (fun K hK=> ?_) AllReadyH.nil)
 ·go_simp
  refine(iY _).mono ?_
  rintro e wa ⟨⟨vw,rfl,hvw⟩,hb3⟩
  have HBwa:=Lib.hid (HBwd.out.below hb3 HBwd.out.lt)
  have HBEwa:=Lib.hid (HBEwd.out.trans (hb3.mono HBEwd.out.size))
  have HVWwa:=Lib.hid hvw
  skip
  clear hb3 hvw
  (try go_wp2_with fail)
  refine hK.out _ _ (⟨HBwa.out.cell (i:=0) rfl,HBwa.out.cell (i:=1) rfl,HBwa.out.cell (i:=2) rfl⟩) (fun hHeld2=> ?_)
  clear hK K hHeld
  have hHeld:=hHeld2
  clear hHeld2
  (try go_frame)
  refine wpAnyH_ready (rs:=[7]) (by kernel_rfl) (by simp) ?_
  refine AllReadyH.cons rfl (fun K hK=> ?_) AllReadyH.nil
  go_simp
  obtain⟨wb,hw4⟩:∃w4,w4=wa.alloc (Obj.cells #[Value.int IntKind.i64 g.blocks,Value.int IntKind.i64 g.lbas,Value.int IntKind.i64 g.first] 3):=⟨_,rfl⟩
  rw[←hw4]
  have hb4:Below wa.heap.size wa wb:=by rw[hw4];exact(Below.refl _ _).alloc (Nat.le_refl _) _
  have B4:ac wb wa.heap.size [.int .i64 g.blocks, .int .i64 g.lbas, .int .i64 g.first] 3:=by rw[hw4];exact ac.new wa _ _
  have HGwb:=Lib.hid B4
  have HBwb:=Lib.hid (HBwa.out.below hb4 HBwa.out.lt)
  have HBEwb:=Lib.hid (HBEwa.out.trans (hb4.mono HBEwa.out.size))
  have HVWwb:=Lib.hid (HVWwa.out.below hb4 (Nat.le_refl _))
  clear hb4 B4 hw4
  (try go_wp2_with fail)
  refine hK.out _ _ (⟨HBwb.out.cell (i:=0) rfl,HBwb.out.cell (i:=1) rfl,HBwb.out.cell (i:=2) rfl⟩) (fun hHeld2=> ?_)
  clear hK K hHeld
  have hHeld:=hHeld2
  clear hHeld2
  (try go_frame)
  refine wpAnyH_ready (rs:=[8]) (by kernel_rfl) (by simp) ?_
  refine AllReadyH.cons rfl (fun K hK=> ?_) AllReadyH.nil
  go_simp
  refine(gK _ _ fF [g.blocks,g.lbas,g.first] _ HVWwb.out (bF.blk (xs:=[g.blocks,g.lbas,g.first]) HGwb.out rfl 3) (by show 0<3;decide) (by show 3≤16;decide) (yU hg)).mono ?_
  rintro e wp ⟨r,rfl,tr,hb5⟩
  have HBp:=Lib.hid (HBwb.out.below hb5 HBwb.out.lt)
  have HBEp:=Lib.hid (HBEwb.out.trans (hb5.mono HBEwb.out.size))
  have HTR:=Lib.hid tr
  clear hb5 tr
  (try go_wp2_with fail)
  refine hK.out _ _ (⟨HBp.out.cell (i:=0) rfl,HBp.out.cell (i:=1) rfl,HBp.out.cell (i:=2) rfl⟩) (fun hHeld2=> ?_)
  clear hK K hHeld
  have hHeld:=hHeld2
  clear hHeld2
  (try go_frame)
  refine hp 9 ?_
  refine hp 10 ?_
  refine hp 11 ?_
  refine hp 12 ?_
  refine wpAnyH_done (by kernel_rfl) ?_ _
  go_wp2_with fail
  go_ret2
  exact⟨_,rfl,by rw[←sD];exact HTR.out,HBEp.out⟩
 ·go_simp
  obtain⟨wa,hw4⟩:∃w4,w4=wd.alloc (Obj.cells #[Value.int IntKind.i64 g.blocks,Value.int IntKind.i64 g.lbas,Value.int IntKind.i64 g.first] 3):=⟨_,rfl⟩
  rw[←hw4]
  have hb4:Below wd.heap.size wd wa:=by rw[hw4];exact(Below.refl _ _).alloc (Nat.le_refl _) _
  have B4:ac wa wd.heap.size [.int .i64 g.blocks, .int .i64 g.lbas, .int .i64 g.first] 3:=by rw[hw4];exact ac.new wd _ _
  have HGwa:=Lib.hid B4
  have HBwa:=Lib.hid (HBwd.out.below hb4 HBwd.out.lt)
  have HBEwa:=Lib.hid (HBEwd.out.trans (hb4.mono HBEwd.out.size))
  skip
  clear hb4 B4 hw4
  (try go_wp2_with fail)
  refine hK.out _ _ (⟨HBwa.out.cell (i:=0) rfl,HBwa.out.cell (i:=1) rfl,HBwa.out.cell (i:=2) rfl⟩) (fun hHeld2=> ?_)
  clear hK K hHeld
  have hHeld:=hHeld2
  clear hHeld2
  (try go_frame)
  refine wpAnyH_ready (rs:=[0]) (by kernel_rfl) (by simp) ?_
  refine AllReadyH.cons rfl (fun K hK=> ?_) AllReadyH.nil
  go_simp
  refine(iY _).mono ?_
  rintro e wb ⟨⟨vw,rfl,hvw⟩,hb3⟩
  have HBwb:=Lib.hid (HBwa.out.below hb3 HBwa.out.lt)
  have HBEwb:=Lib.hid (HBEwa.out.trans (hb3.mono HBEwa.out.size))
  have HVWwb:=Lib.hid hvw
  have HGwb:=Lib.hid (HGwa.out.below hb3 HGwa.out.lt)
  clear hb3 hvw
  (try go_wp2_with fail)
  refine hK.out _ _ (⟨HBwb.out.cell (i:=0) rfl,HBwb.out.cell (i:=1) rfl,HBwb.out.cell (i:=2) rfl⟩) (fun hHeld2=> ?_)
  clear hK K hHeld
  have hHeld:=hHeld2
  clear hHeld2
  (try go_frame)
  refine wpAnyH_ready (rs:=[8]) (by kernel_rfl) (by simp) ?_
  refine AllReadyH.cons rfl (fun K hK=> ?_) AllReadyH.nil
  go_simp
  refine(gK _ _ fF [g.blocks,g.lbas,g.first] _ HVWwb.out (bF.blk (xs:=[g.blocks,g.lbas,g.first]) HGwb.out rfl 3) (by show 0<3;decide) (by show 3≤16;decide) (yU hg)).mono ?_
  rintro e wp ⟨r,rfl,tr,hb5⟩
  have HBp:=Lib.hid (HBwb.out.below hb5 HBwb.out.lt)
  have HBEp:=Lib.hid (HBEwb.out.trans (hb5.mono HBEwb.out.size))
  have HTR:=Lib.hid tr
  clear hb5 tr
  (try go_wp2_with fail)
  refine hK.out _ _ (⟨HBp.out.cell (i:=0) rfl,HBp.out.cell (i:=1) rfl,HBp.out.cell (i:=2) rfl⟩) (fun hHeld2=> ?_)
  clear hK K hHeld
  have hHeld:=hHeld2
  clear hHeld2
  (try go_frame)
  refine hp 9 ?_
  refine hp 10 ?_
  refine hp 11 ?_
  refine hp 12 ?_
  refine wpAnyH_done (by kernel_rfl) ?_ _
  go_wp2_with fail
  go_ret2
  exact⟨_,rfl,by rw[←sD];exact HTR.out,HBEp.out⟩
def vR (l:List UInt8) (e:Ending):Prop:=
 (∃a b x y,dN l=some (a,b)∧e= .returned (.tuple #[.string x, .string y, .int .i64 0])∧ak x a∧ak y b)∨
 (dN l=none∧e= .returned (.tuple #[.string ⟨#[]⟩, .string ⟨#[]⟩, .int .i64 3]))
theorem nO (s:ByteArray) (w:World):
  Calls Tryz.prog 292 #[.string s] w fun e w'=>vR s.data.toList e∧Below w.heap.size w w':=by
 have hl:s.data.toList.length=s.size:=rfl
 by_cases c1:s.size<4
 ·have d1:(s.size:Int)<4:=by omega
  have e1:dN s.data.toList=none:=by unfold dN;rw[if_pos (by rw[hl];omega)]
  have E1:=Lib.hid e1
  clear e1 hl c1
  go_enter Tryz.func292,Tryz.ntmps292
  go_wp2_with fail
  go_ret3
  exact⟨.inr ⟨E1.out,rfl⟩,Below.refl _ _⟩
 obtain⟨n,hn⟩:∃n,n=aW (s.data.toList.take 4):=⟨_,rfl⟩
 have hlt:=iu (s.data.toList.take 4)
 have hl4:(s.data.toList.take 4).length=4:=by rw[List.length_take,hl];omega
 rw[hl4,←hn]at hlt
 have hn4:n<4294967296:=by simpa using hlt
 have tg:ak (s.extract 0 4) (s.data.toList.take 4):=((ak.self s).extract 0 4).cast (by simp)
 obtain⟨t,ht⟩:∃t,s.extract 4 s.size=t:=⟨_,rfl⟩
 have tt:ak t (s.data.toList.drop 4):=by rw[←ht];exact((ak.self s).extract 4 s.size).cast (by rw[List.take_of_length_le (by rw[hl];omega)])
 have tz:t.size=s.size-4:=by rw[tt.size,List.length_drop,hl]
 have TG:=Lib.hid tg
 have TT:=Lib.hid tt
 have HN:=Lib.hid hn
 have HL:=Lib.hid hl
 have TZ:=Lib.hid tz
 have HT:=Lib.hid ht
 have d1:(4:Int)≤s.size:=by omega
 clear tg tt hl hlt hl4
 by_cases c2:t.size<n
 ·have e1:dN s.data.toList=none:=by unfold dN;rw[if_pos (by rw[HL.out,←HN.out];omega)]
  have E1:=Lib.hid e1
  have d2:(t.size:Int)<n:=by omega
  clear e1 hn tz c2 c1
  go_enter Tryz.func292,Tryz.ntmps292
  go_wp2_with fail
  refine(iJ (s.extract 0 4) _).mono ?_
  rintro e w1 ⟨he,rfl⟩
  rcases he with⟨hok,rfl⟩|⟨hno,rfl⟩
  rotate_left
  ·exfalso
   rw[TG.out,List.length_take,HL.out,←HN.out]at hno
   omega
  rw[TG.out,←HN.out]
  clear hok
  go_wp2_with fail
  go_ret3
  exact⟨.inr ⟨E1.out,rfl⟩,Below.refl _ _⟩
 ·have e1:dN s.data.toList=some ((s.data.toList.drop 4).take n,(s.data.toList.drop 4).drop n):=by unfold dN;rw[if_neg (by rw[HL.out,←HN.out];omega),←HN.out]
  have E1:=Lib.hid e1
  have d2:(n:Int)≤(t.size:Int):=by omega
  have d3:(0:Int)≤(n:Int):=by omega
  clear e1 hn tz c2 c1
  go_enter Tryz.func292,Tryz.ntmps292
  go_wp2_with fail
  refine(iJ (s.extract 0 4) _).mono ?_
  rintro e w1 ⟨he,rfl⟩
  rcases he with⟨hok,rfl⟩|⟨hno,rfl⟩
  rotate_left
  ·exfalso
   rw[TG.out,List.length_take,HL.out,←HN.out]at hno
   omega
  rw[TG.out,←HN.out]
  clear hok
  go_wp2_with fail
  go_quiet (fail)
  go_wp2_with fail
  go_ret3
  refine⟨.inl ⟨_,_,_,_,E1.out,rfl, ?_, ?_⟩,⟨rfl,rfl,rfl,Nat.le_refl _,fun _ _=>rfl⟩⟩
  ·exact(TT.out.extract 0 n).cast (by simp)
  ·exact(TT.out.extract n t.size).cast (by rw[List.take_of_length_le (by rw[←TT.out.size];omega)])
theorem Fb:(Tryz.prog.info? 3).map (fun i=>(i.zero,i.size,i.bytes))=some (some (.int .i64 0),1,8):=by kernel_rfl
theorem Du (b k:Nat) (s:ByteArray) (w:World) (hb:ac w b [.string s] 9) (hk:k≤s.size):
  Calls Tryz.prog 349 #[.int .i64 (k:Int), .pointer (some ⟨b,0,none⟩)] w fun e w'=>∃x y,e= .returned (.string x)∧ak x (s.data.toList.take k)∧ak y (s.data.toList.drop k)∧w'=w.setCell ⟨b,0,none⟩ (.string y):=by
 have hl:s.data.toList.length=s.size:=rfl
 have HL:=Lib.hid hl;clear hl
 have h0:=hb.cell (i:=0) rfl
 have h1:=hb.free 0
 have d0:(0:Int)≤(k:Int):=by omega
 have d1:(k:Int)≤s.size:=by omega
 go_enter Tryz.func349,Tryz.ntmps349
 go_wp2_with fail
 go_ret
 refine⟨_,_,rfl, ?_, ?_,rfl⟩
 ·exact((ak.self s).extract 0 k).cast (by simp)
 ·exact((ak.self s).extract k s.size).cast (by rw[List.take_of_length_le (by rw[HL.out];omega)])
def sumTo (ws:List Nat) (k:Nat):Nat:=(ws.take k).sum
theorem fe {ws:List Nat} {k a:Nat} (h:ws[k]?=some a):sumTo ws (k+1)=sumTo ws k+a:=by
 obtain⟨h1,rfl⟩:=List.getElem?_eq_some_iff.1 h
 unfold sumTo
 rw[List.take_succ_eq_append_getElem h1,List.sum_append]
 simp
theorem sE (ws:List Nat):sumTo ws ws.length=ws.sum:=by unfold sumTo;rw[List.take_length]
theorem sumTo_le (ws:List Nat) (k:Nat):sumTo ws k≤ws.sum:=by
 have h:=List.take_append_drop k ws
 unfold sumTo
 conv=>rhs;rw[←h]
 rw[List.sum_append]
 omega
def ln (ws:List Nat) (l:List UInt8) (w w':World) (e:Ending):Prop:=
 (∃ns vo,bn ws l=some ns∧e= .returned (.tuple #[vo, .int .i64 0])∧w'.ownsRow w.heap.size 3 1 vo ns.length (ns.map (Value.int .i64))∧ns.length=ws.length)∨
 (bn ws l=none∧e= .returned (.tuple #[.slice none 0 0, .int .i64 3]))
structure eR (ws:List Nat) (l:List UInt8) (k:Nat) (ns:List Int):Prop where
 len:ns.length=k
 all:bn ws l=(bn (ws.drop k) (l.drop (sumTo ws k))).map (ns++·)
theorem eR.start (ws:List Nat) (l:List UInt8):eR ws l 0 []:=⟨rfl,by simp[sumTo]⟩
theorem eR.no {ws:List Nat} {l:List UInt8} {k a:Nat} {ns:List Int} (h:eR ws l k ns) (ha:ws[k]?=some a) (hg:ll ((l.drop (sumTo ws k)).take a)=false):bn ws l=none:=by
 rw[h.all]
 obtain⟨h1,rfl⟩:=List.getElem?_eq_some_iff.1 ha
 rw[List.drop_eq_getElem_cons h1]
 simp only[bn]
 rw[hg]
 rfl
theorem eR.next {ws:List Nat} {l:List UInt8} {k a:Nat} {ns:List Int} (h:eR ws l k ns) (ha:ws[k]?=some a) (hg:ll ((l.drop (sumTo ws k)).take a)=true):
  eR ws l (k+1) (ns++[((aW ((l.drop (sumTo ws k)).take a):Nat):Int)]):=by
 refine⟨by rw[List.length_append,h.len];rfl, ?_⟩
 have e:l.drop (sumTo ws k+a)=(l.drop (sumTo ws k)).drop a:=by rw[List.drop_drop]
 rw[h.all,fe ha,e]
 obtain⟨h1,rfl⟩:=List.getElem?_eq_some_iff.1 ha
 rw[List.drop_eq_getElem_cons h1]
 simp only[bn]
 rw[hg,if_pos rfl,Option.map_map]
 congr 1
 funext x
 simp
theorem eR.done {ws:List Nat} {l:List UInt8} {k:Nat} {ns:List Int} (h:eR ws l k ns) (hk:ws.length≤k):bn ws l=some ns:=by
 rw[h.all,List.drop_of_length_le hk]
 simp[bn]
theorem lI (v:Value) (ws:List Nat) (s:ByteArray) (w:World) (hv:bF w v (ws.map (fun(a:Nat)=>(a:Int)))) (hw:∀(k a:Nat),ws[k]?=some a→1≤a∧a≤8) (hsum:ws.sum=s.size) (hne:0<ws.length) (hlen:ws.length≤16):
  Calls Tryz.prog 291 #[v, .string s] w fun e w'=>ln ws s.data.toList w w' e∧Below w.heap.size w w':=by
 obtain⟨g,o,c,rfl,hg,hc⟩:=hv.at (by rw[List.length_map];exact hne)
 have hl:s.data.toList.length=s.size:=rfl
 obtain⟨n,hn⟩:∃n,n=ws.length:=⟨_,rfl⟩
 rw[List.length_map,←hn]
 have hcell:∀(k a:Nat),ws[k]?=some a→w.cell? ⟨g,o+k,none⟩=some (.int .i64 (a:Int)):=fun k a ha=>hc k a (by rw[List.getElem?_map,ha];rfl)
 have hszb:s.size≤128:=by
  have:∀k,k≤ws.length→sumTo ws k≤8*k:=by
   intro k
   induction k with
   |zero=>intro _;simp[sumTo]
   |succ k ih=>
    intro hk
    obtain⟨a,ha⟩:∃a,ws[k]?=some a:=⟨_,List.getElem?_eq_getElem (by omega)⟩
    have:=hw k a ha
    rw[fe ha]
    have:=ih (by omega)
    omega
  have h:=this ws.length (Nat.le_refl _)
  rw[sE]at h
  omega
 have hn16:n≤16:=by omega
 have hn0:0<n:=by omega
 have HN:=Lib.hid hn;clear hn
 have HC:=Lib.hid hcell;clear hcell
 have HW:=Lib.hid hw;clear hw
 have HS:=Lib.hid hsum;clear hsum
 have HL:=Lib.hid hl;clear hl
 clear hv hc hne hlen
 have hmf:∀(fn:Fn) (first cap:Array Value) (w:World),(Instr.makeFunc fn first cap).run Tryz.prog w= .ok (.func fn first cap) w:=fun _ _ _ _=>rfl
 obtain⟨j0,ji,jz0,jz1,jz2⟩:=info_parts Fb
 go_enter Tryz.func291,Tryz.ntmps291
 go_wp2_with ((with_reducible refine aw 9 (.tmp 1) (.string s) rfl (some 3) ?hgd ?ho ?hd ?hx ?_);(case hgd|ho|hd|hx=>rfl);(intro b w1 l1 B1 e1 z1))
 have hbel1:=e1.mono l1
 have HB1:=Lib.hid B1
 clear B1
 go_loop [6,17] (fun x i=>∃k:Nat,k≤n∧i= .int .i64 k∧x= .int .i64 ((sumTo ws k:Nat):Int)) (fun _ i=>n-(intOf i).toNat)
 case atStart=>exact⟨0,by omega,rfl,rfl⟩
 case round=>
  obtain⟨k,hk,rfl,rfl⟩:=hrel
  obtain⟨x,hx⟩:∃x,x=sumTo ws k:=⟨_,rfl⟩
  rw[←hx]
  have hx8:x≤128:=by have:=sumTo_le ws k;have:=HS.out;omega
  have HX:=Lib.hid hx;clear hx
  by_cases hlt:k<n
  ·have hlt':(k:Int)<n:=by omega
   have h00:(0:Int)≤(k:Int):=by omega
   obtain⟨a,ha⟩:∃a,ws[k]?=some a:=⟨_,List.getElem?_eq_getElem (by rw[←HN.out];exact hlt)⟩
   have hca:w1.cell? ⟨g,o+k,none⟩=some (.int .i64 (a:Int)):=by rw[hbel1.cell (by show g<w.heap.size;exact hg)];exact HC.out k a ha
   obtain⟨a1,a2⟩:=HW.out k a ha
   have hsu:=fe ha
   rw[←HX.out]at hsu
   have HSU:=Lib.hid hsu;clear hsu ha
   have q1:¬(a:Int)<1:=by omega
   have q2:¬(8:Int)<a:=by omega
   go_wp2_with fail
   go_round
   case rel=>exact⟨k+1,by omega,by go_num,by rw[HSU.out];go_num⟩
   case measure=>simp[intOf];omega
  ·obtain rfl:k=n:=by omega
   have hxs:(x:Int)=s.size:=by rw[HX.out,HN.out,sE,HS.out]
   have hbc:=HB1.out.cell (i:=0) rfl
   go_wp2_with fail
   clear hbc
   go_loopw [10,38] (fun vo i wr=>∃(j:Nat) (t:ByteArray) (ns:List Int),j≤k∧i= .int .i64 j∧eR ws s.data.toList j ns∧ak t (s.data.toList.drop (sumTo ws j))∧ac wr b [.string t] 9∧wr.ownsRow (b+1) 3 1 vo j (ns.map (Value.int .i64))∧Below w.heap.size w wr) (fun _ i _=>k-(intOf i).toNat)
   case atStart=>exact⟨0,s,[],by omega,rfl,eR.start _ _,ak.self s,HB1.out,World.ownsRow_nil _ _ _ _,hbel1⟩
   case round=>
    obtain⟨j,t,ns,hj,rfl,hat,tt,hblk,hown,hbel⟩:=hrel
    obtain⟨q,d,rfl⟩:=aQ hown
    have HO:=Lib.hid hown;clear hown
    have HB:=Lib.hid hblk;clear hblk
    have HAT:=Lib.hid hat;clear hat
    have TT:=Lib.hid tt;clear tt
    by_cases hlt:j<k
    ·have hlt':(j:Int)<k:=by omega
     have h00:(0:Int)≤(j:Int):=by omega
     obtain⟨a,ha⟩:∃a,ws[j]?=some a:=⟨_,List.getElem?_eq_getElem (by rw[←HN.out];exact hlt)⟩
     have hca:wr.cell? ⟨g,o+j,none⟩=some (.int .i64 (a:Int)):=by rw[hbel.cell (by show g<w.heap.size;exact hg)];exact HC.out j a ha
     obtain⟨a1,a2⟩:=HW.out j a ha
     have hts:a≤t.size:=by
      have e1:=TT.out.size
      rw[List.length_drop,HL.out]at e1
      have e2:=fe ha
      have e3:=sumTo_le ws (j+1)
      have e4:=HS.out
      omega
     have HA:=Lib.hid ha;clear ha
     go_wp2_with fail
     refine(Du b a t _ HB.out hts).mono ?_
     rintro e w2 ⟨x1,y1,rfl,tx,ty,rfl⟩
     have TX:=Lib.hid (tx.cast (by rw[show t.data.toList= _ from TT.out]));clear tx
     have TY:Hid (ak y1 (s.data.toList.drop (sumTo ws (j+1)))):=Lib.hid (ty.cast (by rw[show t.data.toList= _ from TT.out,fe HA.out,List.drop_drop]))
     clear ty
     go_wp2_with fail
     refine(iJ x1 _).mono ?_
     rintro e w2 ⟨he,rfl⟩
     have HB2:=Lib.hid (HB.out.set 0 (.string y1))
     have HO2:=Lib.hid (FB (u:= .string y1) (i:=0) HO.out (Nat.lt_succ_self b))
     have hbel2:Below w.heap.size w (wr.setCell ⟨b,0,none⟩ (.string y1)):=hbel.setCell (by show w.heap.size≤b;exact l1) _
     have HBE:=Lib.hid hbel2
     obtain⟨w4,hw4⟩:∃w4,wr.setCell ⟨b,0,none⟩ (.string y1)=w4:=⟨_,rfl⟩
     rw[hw4]at HB2 HO2 HBE ⊢
     clear hbel2 hw4 hbel HB HO hca
     rcases he with⟨hok,rfl⟩|⟨hno,rfl⟩
     ·have hgo:ll ((s.data.toList.drop (sumTo ws j)).take a)=true:=by rw[jK,←show x1.data.toList= _ from TX.out];exact hok
      have hnx:=HAT.out.next HA.out hgo
      rw[←show x1.data.toList= _ from TX.out]at hnx
      have HNX:=Lib.hid hnx
      obtain⟨z,hz⟩:∃z,((aW x1.data.toList:Nat):Int)=z:=⟨_,rfl⟩
      rw[hz]at HNX ⊢
      clear hz hok hgo hnx
      go_wp2_with (first
       |((with_reducible refine bD 22 3 1 ?parts [.int .i64 z] (.int .i64 0) 1 8 (some 54) Tryz.underlying22 Fb (by omega) (by omega) ?hgd ?ho ?hd ?hf ?_);(case hgd|ho|hd=>rfl);(case hf=>kernel_rfl);(intro g3 w3 l3 B3 e3 z3);(have own3:=own_below (e3.mono l3) HO2.out))
       |(at_builtin;refine wpList_append_own_wide _ rfl _ _ 22 rfl (b+1) 3 j0 (.int .i64 0) 1 8 Tryz.underlying22 ji jz0 jz1 jz2 rfl (by decide) _ _ _ rfl own3 ⟨g3,0,none⟩ 1 1 [.int .i64 z] rfl rfl (cj B3) (by intro v hv;simp at hv;subst hv;rfl) (by unfold maxLen;omega) (by omega) (by have:=HB2.out.lt;have:=e3.size;omega) ?_;intro v' w5 own5 grow5 nil5)
       |fail)
      have b3:=HBE.out.trans (e3.mono (Nat.le_trans HBE.out.size l3))
      have B5:=(HB2.out.below e3 (by have:=HB2.out.lt;omega)).grown grow5 (own_ne own3 (by omega))
      go_wp2_with fail
      go_roundw
      case rel=>exact⟨j+1,y1,ns++[z],by omega,by go_num,HNX.out,TY.out,B5,by rw[List.map_append];exact own5,fK b3 own3 grow5 (by omega) b3.size⟩
      case measure=>simp[intOf];omega
     ·have hgo:ll ((s.data.toList.drop (sumTo ws j)).take a)=false:=by
       rw[←show x1.data.toList= _ from TX.out]
       cases hh:ll x1.data.toList with
       |false=>rfl
       |true=>exact absurd (jK.1 hh) hno
      have hnx:=HAT.out.no HA.out hgo
      have HNX:=Lib.hid hnx
      clear hgo hnx hno
      go_wp2_with fail
      go_ret2
      exact⟨.inr ⟨HNX.out,rfl⟩,HBE.out⟩
    ·obtain rfl:j=k:=by omega
     go_wp2_with fail
     go_ret2
     refine⟨.inl ⟨ns,_,HAT.out.done (by rw[←HN.out];omega),rfl, ?_,by rw[HAT.out.len,HN.out]⟩,hbel⟩
     rw[HAT.out.len]
     exact own_base HO.out (by omega)
section
variable {P:Program} {o:Oper} {a:Act} {w:World} {K:Act→World→Prop} {Q:Exit→Act→World→Prop}
theorem fG (ty:TypeId) (x y:Operand) (b:Nat) (old cs:List Value) (t:TypeId) (hb:ac w b old t) (hl:cs.length=old.length)
  (hi:(P.info? ty).map (·.size)=some cs.length) (h1:∀v∈cs,v.oneCell'=true)
  (ho:o.op= .store ty x y) (hx:a.eval x= .pointer (some ⟨b,0,none⟩)) (hy:a.eval y= .agg cs.toArray)
  (h:∀w',ac w' b cs t→bH b w w'→K (a.put o.dst undef) w'):o.wp P a w K Q:=
 wp_store_mid ty x y ho b 0 cs.toArray hx hy (World.there_of hb (by simpa using hl)) (by simpa using hi) (all_oneCell_toArray h1) (by simpa using h _ (hb.setAll cs hl) ((bH.refl b w).setCells cs 0))
end
theorem dO {fn:Func} {p:Tmp} {ty:TypeId} {cs:List Value} {d:TypeDesc} (h:fn.results=#[.cell p ty]) (tmps:Array Value) (w:World) {b:Nat} (hb:w.rangeAt b 0 cs) (hp:tmps.getD p undef= .pointer (some ⟨b,0,none⟩))
  (hu:Tryz.prog.underlying ty=some d) (hd:d.isRow=true) (hi:(Tryz.prog.info? ty).map (·.size)=some cs.length):
  (results fn tmps).run Tryz.prog w= .ok (.agg cs.toArray) w:=by
 have e:=run_loadVar_mid (P:=Tryz.prog) w b 0 ty cs _ hb hu hd hi
 have e0:(results fn tmps).run Tryz.prog w=((asAddr (tmps.getD p undef)).run Tryz.prog w).andThen fun a w₁=>(loadVar ty a).run Tryz.prog w₁:=by
  simp only[results,h]
  simp[Sem.run_bind]
 rw[e0,hp]
 simp only[asAddr,Sem.run_pure,Result.andThen_ok,e]
end Go.Proofs.YtngiibgdgenidaaGreat
