/- Walk of the documents' Right (chapter 19). Walk of record.Check. Walks of the documents' Ints, Bytes (chapter 01) and Join (chapter 02): rows of numbers and texts that came in. Walks of octet.Pack and the documents' Pack, where all numbers fit. -/
import Derived.Test.YtadooplpfhdhcaaGreatQ6
import Derived.Test.YtadooplpfhdhcaaGreatQ5
import Derived.Test.YtadooplpfhdhcaaGreatQ2
import Derived.OwnWalk
import Derived.RegionTactic
import Derived.ChangeAlike
import Derived.Deep.QuietTactic
import Derived.BigQuiet
import Derived.Deep.RegionHeld3
import Derived.Deep.RegionHeld
import Derived.Maps.RangeWalk
import Derived.WalkKit
import Derived.ProofKit
import Derived.Test.YtadooplpfhdhcaaGreatQ4
import Derived.OrdersHeld
import Derived.Deep.MidRow
set_option linter.unusedSimpArgs false
set_option linter.unusedVariables false
set_option maxRecDepth 100000
set_option maxHeartbeats 4000000
namespace Go.Proofs.YtadooplpfhdhcaaGreat
open Go Go.RowKit
open Go.Lib (hid)
open Go.Proofs.Tryz
def jH (r:Rec):Int:=if aI r then 0 else 2
theorem cV {r:Rec} (h:aI r=false):(2:Int)=jH r:=by unfold jH;rw[h];rfl
theorem dx {r:Rec} (h:aI r=true):(0:Int)=jH r:=by unfold jH;rw[h];rfl
theorem aZ (s:ByteArray):s=ByteArray.empty↔s.size=0:=by
 constructor
 ·rintro rfl;rfl
 ·intro h
  have:s.data.toList=[]:=List.eq_nil_of_length_eq_zero h
  exact(ah.self s).eq (show ah ByteArray.empty s.data.toList by rw[this];rfl)
theorem Ku (a g c f j:Int) (root d:ByteArray) (w:World) (l:d.size≤1073741824) (x:Fits a):
  Calls prog 128 #[.agg #[.int .i64 1, .int .i64 a, .int .i64 g, .int .i64 c, .int .i64 f, .int .i64 j, .string root, .string d]] w
   fun e w'=>e= .returned (.int .i64 (jH ⟨1,a,g,c,f,j,root,d⟩))∧Below w.heap.size w w':=by
 have E:=cN root;have F:=cN d;obtain⟨E1,k⟩:∃E1:Int,wrap64 (a-1)=E1:=⟨_,rfl⟩
 have p:a=-9223372036854775808∨E1=a-1:=by
  by_cases h:a=-9223372036854775808
  ·exact .inl h
  ·rw[←k,IntWalk.wrap64_in _ (by have:=x.1;have:=x.2;omega)];exact .inr rfl
 have n:=hid k;clear k;have o:=hid p;clear p;obtain⟨B,v⟩:∃B:Bool,((decide (0≤c)&&decide (c≤4096))&&decide (root.size=32))=B:=⟨_,rfl⟩;obtain⟨m,hn⟩:∃b:Bool,bN d.data.toList=b:=⟨_,rfl⟩;have s:=hid v;clear v;have u:=hid hn;clear hn
 cases B
 all_goals
  go_enter func128,ntmps128;go_wp2_with fail
  refine(Le a g c f j root d _ l E1 n.out).mono ?_
  rintro e r ⟨rfl,i⟩;rw[s.out];have A:w.heap.size<r.heap.size:=by have:=i.size;simp at this;omega
  have z:¬w.heap.size=r.heap.size:=by omega
  have C:r.cell? ⟨w.heap.size,1,none⟩=some (.int .i64 a):=by rw[i.cell (by simp)];simp
  have D:r.cell? ⟨w.heap.size,2,none⟩=some (.int .i64 g):=by rw[i.cell (by simp)];simp
  have y:=hid i;clear i;go_wp2_with (go_at_call 206;refine(ct _ _ _).mono ?_;rintro e r ⟨rfl,rfl⟩)
  all_goals go_ret
  all_goals refine⟨rk ?_, ?_⟩
  all_goals first
   |(have q:=y.out;refine((Below.refl w.heap.size w).alloc (Nat.le_refl _) _).trans (q.mono (by simp))|>.alloc ?_ _;have:=q.size;simp at this ⊢;omega)
   |skip
  all_goals
   have hb:=s.out;have hn:=u.out;have t:=o.out
   try simp only[aZ,Bool.not_eq_true',Bool.not_eq_false',Bool.and_eq_true,Bool.and_eq_false_iff,decide_eq_false_iff_not,decide_eq_true_eq]at*
   first
   |(refine cV ?_;clear hb hn t s u n o;simp[aI,aW, *];done)
   |(refine cV ?_;cases m<;>simp[aI,aW,hn]at hb ⊢<;>simp only[aZ]at*<;>omega)
   |(refine dx ?_;cases m<;>simp[aI,aW,hn]at hb ⊢<;>simp only[aZ]at*<;>omega)
   |(refine cV ?_;cases m<;>simp_all [aI,aW]<;>(try simp only[aZ]at*)<;>omega)
   |(refine dx ?_;cases m<;>simp_all [aI,aW]<;>(try simp only[aZ]at*)<;>omega)
   |(refine cV ?_;cases m<;>simp_all [aI,aW];done)
   |(refine dx ?_;cases m<;>simp_all [aI,aW];done)
theorem Kv (a i g c f:Int) (root d:ByteArray) (w:World) (l:d.size≤1073741824) (x:Fits a):
  Calls prog 128 #[.agg #[.int .i64 2, .int .i64 a, .int .i64 i, .int .i64 g, .int .i64 c, .int .i64 f, .string root, .string d]] w
   fun e w'=>e= .returned (.int .i64 (jH ⟨2,a,i,g,c,f,root,d⟩))∧Below w.heap.size w w':=by
 have E:=cN root;have F:=cN d;obtain⟨E1,k⟩:∃E1:Int,wrap64 (a-1)=E1:=⟨_,rfl⟩
 have p:a=-9223372036854775808∨E1=a-1:=by
  by_cases h:a=-9223372036854775808
  ·exact .inl h
  ·rw[←k,IntWalk.wrap64_in _ (by have:=x.1;have:=x.2;omega)];exact .inr rfl
 have n:=hid k;clear k;have o:=hid p;clear p;obtain⟨B,v⟩:∃B:Bool,((decide (0≤f)&&decide (f≤1099511627776))&&(decide (0≤c)&&decide (c≤E1)))=B:=⟨_,rfl⟩;obtain⟨m,hn⟩:∃b:Bool,bN d.data.toList=b:=⟨_,rfl⟩;have s:=hid v;clear v;have u:=hid hn;clear hn
 cases B
 all_goals
  go_enter func128,ntmps128;go_wp2_with fail
  refine(Lh a i g c f root d _ l E1 n.out).mono ?_
  rintro e r ⟨rfl,j⟩;rw[s.out];have A:w.heap.size<r.heap.size:=by have:=j.size;simp at this;omega
  have z:¬w.heap.size=r.heap.size:=by omega
  have C:r.cell? ⟨w.heap.size,1,none⟩=some (.int .i64 a):=by rw[j.cell (by simp)];simp
  have D:r.cell? ⟨w.heap.size,2,none⟩=some (.int .i64 i):=by rw[j.cell (by simp)];simp
  have y:=hid j;clear j;go_wp2_with (go_at_call 206;refine(ct _ _ _).mono ?_;rintro e r ⟨rfl,rfl⟩)
  all_goals go_ret
  all_goals refine⟨rk ?_, ?_⟩
  all_goals first
   |(have q:=y.out;refine((Below.refl w.heap.size w).alloc (Nat.le_refl _) _).trans (q.mono (by simp))|>.alloc ?_ _;have:=q.size;simp at this ⊢;omega)
   |skip
  all_goals
   have hb:=s.out;have hn:=u.out;have t:=o.out
   try simp only[aZ,Bool.not_eq_true',Bool.not_eq_false',Bool.and_eq_true,Bool.and_eq_false_iff,decide_eq_false_iff_not,decide_eq_true_eq]at*
   first
   |(refine cV ?_;clear hb hn t s u n o;simp[aI,aW, *];done)
   |(refine cV ?_;cases m<;>simp[aI,aW,hn]at hb ⊢<;>simp only[aZ]at*<;>omega)
   |(refine dx ?_;cases m<;>simp[aI,aW,hn]at hb ⊢<;>simp only[aZ]at*<;>omega)
   |(refine cV ?_;cases m<;>simp_all [aI,aW]<;>(try simp only[aZ]at*)<;>omega)
   |(refine dx ?_;cases m<;>simp_all [aI,aW]<;>(try simp only[aZ]at*)<;>omega)
   |(refine cV ?_;cases m<;>simp_all [aI,aW];done)
   |(refine dx ?_;cases m<;>simp_all [aI,aW];done)
theorem Kw (a i g c f:Int) (root d:ByteArray) (w:World) (l:d.size≤1073741824) (x:Fits a):
  Calls prog 128 #[.agg #[.int .i64 5, .int .i64 a, .int .i64 i, .int .i64 g, .int .i64 c, .int .i64 f, .string root, .string d]] w
   fun e w'=>e= .returned (.int .i64 (jH ⟨5,a,i,g,c,f,root,d⟩))∧Below w.heap.size w w':=by
 have E:=cN root;have F:=cN d;obtain⟨E1,k⟩:∃E1:Int,wrap64 (a-1)=E1:=⟨_,rfl⟩
 have p:a=-9223372036854775808∨E1=a-1:=by
  by_cases h:a=-9223372036854775808
  ·exact .inl h
  ·rw[←k,IntWalk.wrap64_in _ (by have:=x.1;have:=x.2;omega)];exact .inr rfl
 have n:=hid k;clear k;have o:=hid p;clear p;obtain⟨B,v⟩:∃B:Bool,((decide (0≤f)&&decide (f≤1099511627776))&&(decide (0≤c)&&decide (c≤E1)))=B:=⟨_,rfl⟩;obtain⟨m,hn⟩:∃b:Bool,bN d.data.toList=b:=⟨_,rfl⟩;have s:=hid v;clear v;have u:=hid hn;clear hn
 cases B
 all_goals
  go_enter func128,ntmps128;go_wp2_with fail
  refine(Lj a i g c f root d _ l E1 n.out).mono ?_
  rintro e r ⟨rfl,j⟩;rw[s.out];have A:w.heap.size<r.heap.size:=by have:=j.size;simp at this;omega
  have z:¬w.heap.size=r.heap.size:=by omega
  have C:r.cell? ⟨w.heap.size,1,none⟩=some (.int .i64 a):=by rw[j.cell (by simp)];simp
  have D:r.cell? ⟨w.heap.size,2,none⟩=some (.int .i64 i):=by rw[j.cell (by simp)];simp
  have y:=hid j;clear j;go_wp2_with (go_at_call 206;refine(ct _ _ _).mono ?_;rintro e r ⟨rfl,rfl⟩)
  all_goals go_ret
  all_goals refine⟨rk ?_, ?_⟩
  all_goals first
   |(have q:=y.out;refine((Below.refl w.heap.size w).alloc (Nat.le_refl _) _).trans (q.mono (by simp))|>.alloc ?_ _;have:=q.size;simp at this ⊢;omega)
   |skip
  all_goals
   have hb:=s.out;have hn:=u.out;have t:=o.out
   try simp only[aZ,Bool.not_eq_true',Bool.not_eq_false',Bool.and_eq_true,Bool.and_eq_false_iff,decide_eq_false_iff_not,decide_eq_true_eq]at*
   first
   |(refine cV ?_;clear hb hn t s u n o;simp[aI,aW, *];done)
   |(refine cV ?_;cases m<;>simp[aI,aW,hn]at hb ⊢<;>simp only[aZ]at*<;>omega)
   |(refine dx ?_;cases m<;>simp[aI,aW,hn]at hb ⊢<;>simp only[aZ]at*<;>omega)
   |(refine cV ?_;cases m<;>simp_all [aI,aW]<;>(try simp only[aZ]at*)<;>omega)
   |(refine dx ?_;cases m<;>simp_all [aI,aW]<;>(try simp only[aZ]at*)<;>omega)
   |(refine cV ?_;cases m<;>simp_all [aI,aW];done)
   |(refine dx ?_;cases m<;>simp_all [aI,aW];done)
theorem Kx (a g f c j:Int) (root d:ByteArray) (w:World) (l:d.size≤1073741824) (x:Fits a):
  Calls prog 128 #[.agg #[.int .i64 3, .int .i64 a, .int .i64 g, .int .i64 f, .int .i64 c, .int .i64 j, .string root, .string d]] w
   fun e w'=>e= .returned (.int .i64 (jH ⟨3,a,g,f,c,j,root,d⟩))∧Below w.heap.size w w':=by
 have E:=cN root;have F:=cN d;obtain⟨E1,k⟩:∃E1:Int,wrap64 (a-1)=E1:=⟨_,rfl⟩
 have p:a=-9223372036854775808∨E1=a-1:=by
  by_cases h:a=-9223372036854775808
  ·exact .inl h
  ·rw[←k,IntWalk.wrap64_in _ (by have:=x.1;have:=x.2;omega)];exact .inr rfl
 have n:=hid k;clear k;have o:=hid p;clear p;obtain⟨B,v⟩:∃B:Bool,((decide (0≤c)&&decide (c≤E1))&&bN d.data.toList)=B:=⟨_,rfl⟩;obtain⟨m,hn⟩:∃b:Bool,bN d.data.toList=b:=⟨_,rfl⟩;have s:=hid v;clear v;have u:=hid hn;clear hn
 cases B
 all_goals
  go_enter func128,ntmps128;go_wp2_with fail
  refine(Ll a g f c j root d _ l E1 n.out).mono ?_
  rintro e r ⟨rfl,i⟩;rw[s.out];have A:w.heap.size<r.heap.size:=by have:=i.size;simp at this;omega
  have z:¬w.heap.size=r.heap.size:=by omega
  have C:r.cell? ⟨w.heap.size,1,none⟩=some (.int .i64 a):=by rw[i.cell (by simp)];simp
  have D:r.cell? ⟨w.heap.size,2,none⟩=some (.int .i64 g):=by rw[i.cell (by simp)];simp
  have y:=hid i;clear i;go_wp2_with (go_at_call 206;refine(ct _ _ _).mono ?_;rintro e r ⟨rfl,rfl⟩)
  all_goals go_ret
  all_goals refine⟨rk ?_, ?_⟩
  all_goals first
   |(have q:=y.out;refine((Below.refl w.heap.size w).alloc (Nat.le_refl _) _).trans (q.mono (by simp))|>.alloc ?_ _;have:=q.size;simp at this ⊢;omega)
   |skip
  all_goals
   have hb:=s.out;have hn:=u.out;have t:=o.out
   try simp only[aZ,Bool.not_eq_true',Bool.not_eq_false',Bool.and_eq_true,Bool.and_eq_false_iff,decide_eq_false_iff_not,decide_eq_true_eq]at*
   first
   |(refine cV ?_;clear hb hn t s u n o;simp[aI,aW, *];done)
   |(refine cV ?_;cases m<;>simp[aI,aW,hn]at hb ⊢<;>simp only[aZ]at*<;>omega)
   |(refine dx ?_;cases m<;>simp[aI,aW,hn]at hb ⊢<;>simp only[aZ]at*<;>omega)
   |(refine cV ?_;cases m<;>simp_all [aI,aW]<;>(try simp only[aZ]at*)<;>omega)
   |(refine dx ?_;cases m<;>simp_all [aI,aW]<;>(try simp only[aZ]at*)<;>omega)
   |(refine cV ?_;cases m<;>simp_all [aI,aW];done)
   |(refine dx ?_;cases m<;>simp_all [aI,aW];done)
theorem Ky (a g f d j:Int) (root c:ByteArray) (w:World) (l:c.size≤1073741824) (x:Fits a):
  Calls prog 128 #[.agg #[.int .i64 4, .int .i64 a, .int .i64 g, .int .i64 f, .int .i64 d, .int .i64 j, .string root, .string c]] w
   fun e w'=>e= .returned (.int .i64 (jH ⟨4,a,g,f,d,j,root,c⟩))∧Below w.heap.size w w':=by
 have E:=cN root;have F:=cN c;obtain⟨E1,k⟩:∃E1:Int,wrap64 (a-1)=E1:=⟨_,rfl⟩
 have p:a=-9223372036854775808∨E1=a-1:=by
  by_cases h:a=-9223372036854775808
  ·exact .inl h
  ·rw[←k,IntWalk.wrap64_in _ (by have:=x.1;have:=x.2;omega)];exact .inr rfl
 have n:=hid k;clear k;have o:=hid p;clear p;obtain⟨B,v⟩:∃B:Bool,(bN c.data.toList)=B:=⟨_,rfl⟩;obtain⟨m,hn⟩:∃b:Bool,bN c.data.toList=b:=⟨_,rfl⟩;have s:=hid v;clear v;have u:=hid hn;clear hn
 cases B
 all_goals
  go_enter func128,ntmps128;go_wp2_with fail
  refine(Lm a g f d j root c _ l E1 n.out).mono ?_
  rintro e r ⟨rfl,i⟩;rw[s.out];have A:w.heap.size<r.heap.size:=by have:=i.size;simp at this;omega
  have z:¬w.heap.size=r.heap.size:=by omega
  have C:r.cell? ⟨w.heap.size,1,none⟩=some (.int .i64 a):=by rw[i.cell (by simp)];simp
  have D:r.cell? ⟨w.heap.size,2,none⟩=some (.int .i64 g):=by rw[i.cell (by simp)];simp
  have y:=hid i;clear i;go_wp2_with (go_at_call 206;refine(ct _ _ _).mono ?_;rintro e r ⟨rfl,rfl⟩)
  all_goals go_ret
  all_goals refine⟨rk ?_, ?_⟩
  all_goals first
   |(have q:=y.out;refine((Below.refl w.heap.size w).alloc (Nat.le_refl _) _).trans (q.mono (by simp))|>.alloc ?_ _;have:=q.size;simp at this ⊢;omega)
   |skip
  all_goals
   have hb:=s.out;have hn:=u.out;have t:=o.out
   try simp only[aZ,Bool.not_eq_true',Bool.not_eq_false',Bool.and_eq_true,Bool.and_eq_false_iff,decide_eq_false_iff_not,decide_eq_true_eq]at*
   first
   |(refine cV ?_;clear hb hn t s u n o;simp[aI,aW, *];done)
   |(refine cV ?_;cases m<;>simp[aI,aW,hn]at hb ⊢<;>simp only[aZ]at*<;>omega)
   |(refine dx ?_;cases m<;>simp[aI,aW,hn]at hb ⊢<;>simp only[aZ]at*<;>omega)
   |(refine cV ?_;cases m<;>simp_all [aI,aW]<;>(try simp only[aZ]at*)<;>omega)
   |(refine dx ?_;cases m<;>simp_all [aI,aW]<;>(try simp only[aZ]at*)<;>omega)
   |(refine cV ?_;cases m<;>simp_all [aI,aW];done)
   |(refine dx ?_;cases m<;>simp_all [aI,aW];done)
theorem Kz (c a i g f k:Int) (root d:ByteArray) (w:World) (m:d.size≤1073741824) (y:Fits a) (C:¬c=1) (D:¬c=2) (G:¬c=5) (E:¬c=3) (F:¬c=4):
  Calls prog 128 #[.agg #[.int .i64 c, .int .i64 a, .int .i64 i, .int .i64 g, .int .i64 f, .int .i64 k, .string root, .string d]] w
   fun e w'=>e= .returned (.int .i64 (jH ⟨c,a,i,g,f,k,root,d⟩))∧Below w.heap.size w w':=by
 have K:=cN root;have L:=cN d;obtain⟨E1,l⟩:∃E1:Int,wrap64 (a-1)=E1:=⟨_,rfl⟩
 have q:a=-9223372036854775808∨E1=a-1:=by
  by_cases h:a=-9223372036854775808
  ·exact .inl h
  ·rw[←l,IntWalk.wrap64_in _ (by have:=y.1;have:=y.2;omega)];exact .inr rfl
 have o:=hid l;clear l;have p:=hid q;clear q;obtain⟨B,x⟩:∃B:Bool,(false)=B:=⟨_,rfl⟩;obtain⟨n,hn⟩:∃b:Bool,bN d.data.toList=b:=⟨_,rfl⟩;have u:=hid x;clear x;have v:=hid hn;clear hn
 cases B
 all_goals
  go_enter func128,ntmps128;go_wp2_with fail
  refine(Ln c a i g f k root d _ m E1 o.out C D G E F).mono ?_
  rintro e s ⟨rfl,j⟩
  skip
  have H:w.heap.size<s.heap.size:=by have:=j.size;simp at this;omega
  have A:¬w.heap.size=s.heap.size:=by omega
  have I:s.cell? ⟨w.heap.size,1,none⟩=some (.int .i64 a):=by rw[j.cell (by simp)];simp
  have J:s.cell? ⟨w.heap.size,2,none⟩=some (.int .i64 i):=by rw[j.cell (by simp)];simp
  have z:=hid j;clear j;go_wp2_with (go_at_call 206;refine(ct _ _ _).mono ?_;rintro e s ⟨rfl,rfl⟩)
  all_goals go_ret
  all_goals refine⟨rk ?_, ?_⟩
  all_goals first
   |(have r:=z.out;refine((Below.refl w.heap.size w).alloc (Nat.le_refl _) _).trans (r.mono (by simp))|>.alloc ?_ _;have:=r.size;simp at this ⊢;omega)
   |skip
  all_goals
   have hb:=u.out;have hn:=v.out;have t:=p.out
   try simp only[aZ,Bool.not_eq_true',Bool.not_eq_false',Bool.and_eq_true,Bool.and_eq_false_iff,decide_eq_false_iff_not,decide_eq_true_eq]at*
   first
   |(refine cV ?_;clear hb hn t u v o p;simp[aI,aW, *];done)
   |(refine cV ?_;cases n<;>simp[aI,aW,hn]at hb ⊢<;>simp only[aZ]at*<;>omega)
   |(refine dx ?_;cases n<;>simp[aI,aW,hn]at hb ⊢<;>simp only[aZ]at*<;>omega)
   |(refine cV ?_;cases n<;>simp_all [aI,aW]<;>(try simp only[aZ]at*)<;>omega)
   |(refine dx ?_;cases n<;>simp_all [aI,aW]<;>(try simp only[aZ]at*)<;>omega)
   |(refine cV ?_;cases n<;>simp_all [aI,aW];done)
   |(refine dx ?_;cases n<;>simp_all [aI,aW];done)
theorem IntsIn.shape {w:World} {v:Value} {xs:List Int} (h:IntsIn w v xs):∃(p:Option Addr) (c:Nat),v= .slice p xs.length c:=by
 rcases h.row with⟨rfl,p,c,rfl⟩|⟨g,o,c,rfl,_⟩
 ·exact⟨p,c,rfl⟩
 ·exact⟨_,c,rfl⟩
theorem qJ.shape {w:World} {v:Value} {xs:List ByteArray} (h:qJ w v xs):∃(p:Option Addr) (c:Nat),v= .slice p xs.length c:=by
 rcases h.row with⟨rfl,p,c,rfl⟩|⟨g,o,c,rfl,_⟩
 ·exact⟨p,c,rfl⟩
 ·exact⟨_,c,rfl⟩
def iS (ws xs:List Int) (k:Nat):List UInt8:=((ws.zip xs).take k).flatMap fun p=>beBytes p.1.toNat p.2.toNat
def da (ws xs:List Int):List UInt8:=(ws.zip xs).flatMap fun p=>beBytes p.1.toNat p.2.toNat
theorem rW (b xs:List Int) (k:Nat) (a x:Int) (c:b[k]?=some a) (f:xs[k]?=some x):iS b xs (k+1)=iS b xs k++beBytes a.toNat x.toNat:=by
 have g:(b.zip xs)[k]?=some (a,x):=by rw[List.getElem?_zip_eq_some];exact⟨c,f⟩
 obtain⟨e,d⟩:=List.getElem?_eq_some_iff.1 g;unfold iS;rw[List.take_succ_eq_append_getElem e,List.flatMap_append,d];simp
theorem EY (a xs:List Int) (h:a.length=xs.length):iS a xs xs.length=da a xs:=by
 unfold iS da;rw[List.take_of_length_le (by rw[List.length_zip];omega)]
structure kh (ws xs:List Int):Prop where
 len:ws.length=xs.length
 each:∀(i:Nat) (a x:Int),ws[i]?=some a→xs[i]?=some x→1≤a∧a≤8∧0≤x∧x<9223372036854775808∧x.toNat<256^a.toNat
theorem Hu {b xs:List Int} (h:kh b xs) (k:Nat):(iS b xs k).length≤8*k:=by
 induction k with
 |zero=>simp[iS]
 |succ k ih=>
  by_cases d:k<xs.length
  ·obtain⟨x,e⟩:∃x,xs[k]?=some x:=⟨_,List.getElem?_eq_getElem d⟩
   obtain⟨a,c⟩:∃x,b[k]?=some x:=⟨_,List.getElem?_eq_getElem (by rw[h.len];exact d)⟩;rw[rW _ _ _ _ _ c e,List.length_append,beBytes_length]
   have:=h.each k a x c e
   omega
  ·have:iS b xs (k+1)=iS b xs k:=by
    unfold iS;rw[List.take_of_length_le (by rw[List.length_zip];omega),List.take_of_length_le (by rw[List.length_zip];omega)]
   rw[this];omega
theorem bC.at {w:World} {v:Value} {xs:List Int} (h:bC w v xs) (a:0<xs.length):∃g o c,v= .slice (some ⟨g,o,none⟩) xs.length c∧g<w.heap.size∧∀(j:Nat) (x:Int),xs[j]?=some x→w.cell? ⟨g,o+j,none⟩=some (.int .i64 x):=by
 rcases h with⟨rfl,_⟩|h
 ·simp at a
 ·exact h
theorem fc (v u:Value) (C xs:List Int) (w:World) (R:bC w v C) (hu:bC w u xs) (l:0<xs.length) (hx:xs.length≤16) (h:kh C xs):
  Calls prog 66 #[v,u] w fun e w'=>∃r,e= .returned (.tuple #[.string r, .int .i64 0])∧ah r (da C xs)∧Below w.heap.size w w':=by
 obtain⟨g,o,c,rfl,hg,hc⟩:=R.at (by rw[h.len];exact l);obtain⟨O,o',c',rfl,J,A⟩:=hu.at l;obtain⟨n,p⟩:∃n,Hid (n=xs.length):=⟨_,rfl⟩;rw[h.len,←p.out];rw[←p.out]at hx l;have D:=hid h;clear h;have U:=hid hc;clear hc;have G:=hid A;clear A;clear R hu;go_enter func66,ntmps66;go_wp2_with ((with_reducible refine ab 149 _ kN (some 6) ?hgd ?ho ?hd ?_);(case hgd|ho|hd=>rfl);(intro b w1 K L N z1));have s:=gU.new L;have d:=N.mono K;clear L N z1;go_loopw [18] (fun i wr=>∃k:Nat,k≤n∧i= .int .i64 k∧gU wr b (iS C xs k)∧Below w.heap.size w wr) (fun i _=>n-(intOf i).toNat)
 case atStart=>exact⟨0,by omega,rfl,s,d⟩
 case round=>
  clear s d;obtain⟨k,hk,rfl,P,d⟩:=hrel;have M:=hid P;clear P
  by_cases B:k<n
  ·have Q:(k:Int)<n:=by omega
   obtain⟨x,j⟩:∃x,xs[k]?=some x:=⟨_,List.getElem?_eq_getElem (by rw[←p.out];exact B)⟩;obtain⟨a,f⟩:∃x,C[k]?=some x:=⟨_,List.getElem?_eq_getElem (by rw[D.len,←p.out];exact B)⟩;have Z:wr.cell? ⟨O,o'+k,none⟩=some (.int .i64 x):=by rw[d.cell (by show O<w.heap.size;exact J)];exact G.out k x j
   have Y:wr.cell? ⟨g,o+k,none⟩=some (.int .i64 a):=by rw[d.cell (by show g<w.heap.size;exact hg)];exact U.out k a f
   obtain⟨h1,h2,h3,h4,X⟩:=D.each k a x f j;obtain⟨m,rfl⟩:∃m:Nat,x=(m:Int):=⟨x.toNat,by omega⟩;obtain⟨W,rfl⟩:∃m:Nat,a=(m:Int):=⟨a.toNat,by omega⟩;have V:=hid j;clear j;have T:=hid f;clear f;have h0:(0:Int)≤(k:Int):=by omega
   go_wp2_with fail
   refine(sF m W _ (by omega) (by omega) (by omega) (fun _=>by simpa using X)).mono ?_
   rintro e w3 ⟨r,rfl,S,z⟩;have t:=M.below z;have E:=hid t;clear t;have sr:r.size≤8:=by rw[S.size,beBytes_length];omega
   go_wp2_with fail
   refine(iG b _ r _ E.out (by have:=Hu D.out k;omega)).mono ?_
   rintro e w4 ⟨rfl,y,H⟩;have F:=hid y;clear y;go_wp2_with fail;go_roundw
   case rel=>
    refine⟨k+1,by omega,by go_num, ?_,(d.trans (z.mono d.size)).trans (H.mono K)⟩
    have:=F.out
    rw[show r.data.toList= _ from S]at this;rw[rW _ _ _ _ _ T.out V.out,Int.toNat_natCast,Int.toNat_natCast];exact this
   case measure=>simp[intOf];omega
  ·obtain rfl:k=n:=by omega
   go_wp2_with fail
   refine(oJ b _ _ M.out).mono ?_
   rintro e w5 ⟨q,rfl,tq,I⟩;go_wp2_with fail;go_ret2;exact⟨q,rfl,tq.cast (by rw[p.out];exact EY _ _ D.len),d.trans (I.mono K)⟩
section
variable {P:Program} {ops:Array Oper} {Q:Exit→Act→World→Prop} {md:Region.Mode} {S:World→Prop} {fuel:Nat} {l:Array Bool} {a a':Act} {w:World} {o:Oper}
theorem hp (i:Nat) {v:Value} (h:wpAnyH P md ops Q S fuel (l.setIfInBounds i true) a' w) (k:ops[i]?=some o:=by rfl) (n:Region.noSelect ops=true:=by kernel_rfl)
  (g:Region.free md ops l i=true:=by kernel_rfl) (m:(Region.ready md ops l).contains i=true:=by kernel_rfl) (j:Region.wanted o (yielded ops a.tmps)=true:=by rfl)
  (hy:∀w,S w→(execOp a.eval o).run P w= .ok (.value v) w:=by intro w b;(try dsimp only at b);go_simp;first|done|with_reducible rfl)
  (e:S w:=by assumption) (d:∀c a w,Q (.panic c) (a.put o.dst v) w→Q (.panic c) a w:=by exact fun _ _ _ h=>h)
  (f:a.put o.dst v=a':=by conv=>lhs;simp only[Act.put,Array.getInternal_eq_getElem,List.getElem_toArray,List.getElem_cons_succ,List.getElem_cons_zero,List.setIfInBounds_toArray,List.set_cons_zero,List.set_cons_succ]):
  wpAnyH P md ops Q S (fuel+1) l a w:=
 wpAnyH_take k n g m d (.inl ⟨j,hy⟩) e (f ▸ h)
theorem hl (i:Nat) (e:TypeId) (b off:Nat) (cs:List Value) {x:Operand} {d:TypeDesc} (g:∀w,S w→w.rangeAt b off cs) (hu:P.underlying e=some d) (u:(P.info? e).map (·.size)=some cs.length)
  (h:wpAnyH P md ops Q S fuel (l.setIfInBounds i true) a' w) (p:ops[i]?=some o:=by rfl) (s:Region.noSelect ops=true:=by kernel_rfl)
  (m:Region.free md ops l i=true:=by kernel_rfl) (r:(Region.ready md ops l).contains i=true:=by kernel_rfl) (n:Region.wanted o (yielded ops a.tmps)=true:=by rfl)
  (q:o.op= .load e x:=by rfl) (t:a.eval x= .pointer (some ⟨b,off,none⟩):=by rfl) (hd:d.isRow=true:=by rfl)
  (j:S w:=by assumption) (f:∀c a w,Q (.panic c) (a.put o.dst (.agg cs.toArray)) w→Q (.panic c) a w:=by exact fun _ _ _ h=>h)
  (k:a.put o.dst (.agg cs.toArray)=a':=by conv=>lhs;simp only[Act.put,Array.getInternal_eq_getElem,List.getElem_toArray,List.getElem_cons_succ,List.getElem_cons_zero,List.setIfInBounds_toArray,List.set_cons_zero,List.set_cons_succ]):wpAnyH P md ops Q S (fuel+1) l a w:=
 wpAnyH_take p s m r f (yieldsIf_load_mid n e x q b off t cs d g hu hd u) j (k ▸ h)
theorem hu (i:Nat) (d:TypeId) (b:List Value) {parts:Array (Nat×Operand)} (e:P.built d (parts.map fun(j,x)=>(j,a.eval x)).toList=some b.toArray)
  (h:wpAnyH P md ops Q S fuel (l.setIfInBounds i true) a' w) (p:ops[i]?=some o:=by rfl) (s:Region.noSelect ops=true:=by kernel_rfl)
  (m:Region.free md ops l i=true:=by kernel_rfl) (r:(Region.ready md ops l).contains i=true:=by kernel_rfl) (n:Region.wanted o (yielded ops a.tmps)=true:=by rfl)
  (q:o.op= .build d parts:=by rfl)
  (g:S w:=by assumption) (f:∀c a w,Q (.panic c) (a.put o.dst (.agg b.toArray)) w→Q (.panic c) a w:=by exact fun _ _ _ h=>h)
  (k:a.put o.dst (.agg b.toArray)=a':=by conv=>lhs;simp only[Act.put,Array.getInternal_eq_getElem,List.getElem_toArray,List.getElem_cons_succ,List.getElem_cons_zero,List.setIfInBounds_toArray,List.set_cons_zero,List.set_cons_succ]):wpAnyH P md ops Q S (fuel+1) l a w:=
 wpAnyH_take p s m r f (.inl ⟨n,fun w _=>by
  unfold execOp;simp only[q,Sem.run_bind,run_build w d _ b.toArray e,Result.andThen_ok,Sem.run_pure]⟩) g (k ▸ h)
theorem hn (i:Nat) (h:wpAnyH P md ops Q S fuel (l.setIfInBounds i true) a' w) (j:ops[i]?=some o:=by rfl) (m:Region.noSelect ops=true:=by kernel_rfl)
  (f:Region.free md ops l i=true:=by kernel_rfl) (k:(Region.ready md ops l).contains i=true:=by kernel_rfl) (g:Region.wanted o (yielded ops a.tmps)=false:=by rfl)
  (d:S w:=by assumption) (b:∀c a w,Q (.panic c) (a.put o.dst undef) w→Q (.panic c) a w:=by exact fun _ _ _ h=>h)
  (e:a.put o.dst undef=a':=by conv=>lhs;simp only[Act.put,Array.getInternal_eq_getElem,List.getElem_toArray,List.getElem_cons_succ,List.getElem_cons_zero,List.setIfInBounds_toArray,List.set_cons_zero,List.set_cons_succ]):wpAnyH P md ops Q S (fuel+1) l a w:=
 wpAnyH_take j m f k b (.inr ⟨g,rfl⟩) d (e ▸ h)
theorem hc (i:Nat) (h:∀b:Act→World→Prop,Shut (∀a w,S w→(S w→wpAnyH P md ops Q S fuel (l.setIfInBounds i true) a w)→b a w)→if Region.wanted o (yielded ops a.tmps)=true then Oper.wp P o a w b Q else b (a.put o.dst undef) w)
  (c:ops[i]?=some o:=by conv=>lhs;simp only[List.getElem?_toArray,List.getElem?_cons_succ,List.getElem?_cons_zero]) (d:Region.ready md ops l=[i]:=by kernel_rfl):wpAnyH P md ops Q S (fuel+1) l a w:=
 wpAnyH_ready d (by simp) (AllReadyH.cons c h AllReadyH.nil)
theorem hc2 {o':Oper} (i j:Nat) (h:∀b:Act→World→Prop,Shut (∀a w,S w→(S w→wpAnyH P md ops Q S fuel (l.setIfInBounds i true) a w)→b a w)→if Region.wanted o (yielded ops a.tmps)=true then Oper.wp P o a w b Q else b (a.put o.dst undef) w)
  (d:∀b:Act→World→Prop,Shut (∀a w,S w→(S w→wpAnyH P md ops Q S fuel (l.setIfInBounds j true) a w)→b a w)→if Region.wanted o' (yielded ops a.tmps)=true then Oper.wp P o' a w b Q else b (a.put o'.dst undef) w)
  (e:ops[i]?=some o:=by conv=>lhs;simp only[List.getElem?_toArray,List.getElem?_cons_succ,List.getElem?_cons_zero]) (c:ops[j]?=some o':=by conv=>lhs;simp only[List.getElem?_toArray,List.getElem?_cons_succ,List.getElem?_cons_zero]) (f:Region.ready md ops l=[i,j]:=by kernel_rfl):wpAnyH P md ops Q S (fuel+1) l a w:=
 wpAnyH_ready f (by simp) (AllReadyH.cons e h (AllReadyH.cons c d AllReadyH.nil))
theorem hd (h:Q .normal a w) (b:Region.ready md ops l=[]:=by kernel_rfl):wpAnyH P md ops Q S fuel l a w:=wpAnyH_done b h _
theorem hb (S:World→Prop) {id:Nat} (b:S w.drew) (h:S w.drew→wpAnyH P .any ops Q S ops.size (Array.replicate ops.size false) a w.drew) (c:P.follows .mixedOrders=true:=by kernel_rfl):(Code.region id ops true).wp P Q a w:=
 wp_region_held_drew c b h
end
theorem bG {g:aH}:(prog.info? 23).map (·.size)=some g.cells.length:=by kernel_rfl
theorem vJ (g:aH):∀v∈g.cells,v.oneCell'=true:=by intro v a;simp[aH.cells]at a;rcases a with rfl|rfl|rfl<;>rfl
theorem fj (g:aH) (w:World) (n:cA g):
  Calls prog 29 #[g.v] w fun e w'=>e= .returned (.int .i64 0)∧Below w.heap.size w w':=by
 obtain⟨blocks,a,first⟩:=g;obtain⟨f,h,j,k,l,c⟩:=n;simp only at f h j k l c;have m:¬(4294967295:Int)<first:=by omega
 clear c;go_enter func29,ntmps29
 go_wp2_with (first
  |((with_reducible refine ae 23 (.tmp 0) (aH.cells ⟨blocks,a,first⟩) (some 1) ?hgd ?ho ?hd ?hx ?_);(case hgd|ho|hd|hx=>rfl);(intro p t o b d u);(have q:=b.cell (i:=0) rfl);(have r:=b.cell (i:=1) rfl);(have s:=b.cell (i:=2) rfl))
  |fail)
 go_ret;exact⟨rfl,d.mono o⟩
theorem iw (g:aH) (w:World) (hg:cA g):
  Calls prog 169 #[g.v] w fun e w'=>e= .returned (.int .i64 (g.blocks-4))∧Below w.heap.size w w':=by
 have k:=hg.b0;have l:=hg.b1;go_enter func169,ntmps169
 go_wp2_with (first
  |((with_reducible refine ae 23 (.tmp 0) g.cells (some 1) ?hgd ?ho ?hd ?hx ?_);(case hgd|ho|hd|hx=>rfl);(intro f m c b h d))
  |((with_reducible refine ao 23 (.tmp 1) f 0 g.cells _ (some 3) b.range underlying23 rfl bG ?hg ?ho ?hds ?hx ?_);(case ho|hg|hds|hx=>rfl))
  |fail)
 refine(fj g _ hg).mono ?_
 rintro e n ⟨rfl,a⟩;have j:=(b.below a d).cell (i:=0) rfl;go_wp2_with fail;go_ret;exact⟨rfl,(h.mono c).trans (a.mono (Nat.le_trans c (Nat.le_of_lt d)))⟩
theorem vK (g:aH) (i:Int) (w:World) (hg:cA g) (k:0≤i) (l:i<g.blocks-4):
  Calls prog 236 #[g.v, .int .i64 i] w fun e w'=>e= .returned (.tuple #[.int .i64 (4+i), .int .i64 0])∧Below w.heap.size w w':=by
 have m:=hg.b1;have b:decide (i<0)=false:=decide_eq_false (by omega);go_enter func236,ntmps236
 go_wp2_with (first
  |((with_reducible refine ae 23 (.tmp 0) g.cells (some 2) ?hgd ?ho ?hd ?hx ?_);(case hgd|ho|hd|hx=>rfl);(intro d n f c h j))
  |((with_reducible refine ao 23 (.tmp 2) d 0 g.cells _ (some 10) c.range underlying23 rfl bG ?hg ?ho ?hds ?hx ?_);(case ho|hg|hds|hx=>rfl))
  |(rw[b];((with_reducible refine ao 23 (.tmp 2) d 0 g.cells _ (some 10) c.range underlying23 rfl bG ?hg ?ho ?hds ?hx ?_);(case ho|hg|hds|hx=>rfl)))
  |fail)
 refine(iw g _ hg).mono ?_
 rintro e o ⟨rfl,a⟩;go_wp2_with fail;go_ret2;exact⟨rfl,(h.mono f).trans (a.mono (Nat.le_trans f (Nat.le_of_lt j)))⟩
theorem iT (n:Int) (w:World) (h:0≤n):
  Calls prog 101 #[.int .i64 n] w fun e w'=>e= .returned (.int .i64 (2+n % 2))∧w=w':=by
 go_enter func101,ntmps101;go_wp2_with fail;go_ret;exact⟨by show Ending.returned (.int .i64 (2+max n 0 % 2))= _;rw[Int.max_eq_left h],rfl⟩
theorem vL (n:Int) (w:World) (h:0≤n):
  Calls prog 194 #[.int .i64 n] w fun e w'=>e= .returned (.int .i64 (n % 2))∧w=w':=by
 go_enter func194,ntmps194;go_wp2_with fail;go_ret;exact⟨by show Ending.returned (.int .i64 (max n 0 % 2))= _;rw[Int.max_eq_left h],rfl⟩
def gP:List Int:=[4,4,4]
theorem ki (w:World):
  Calls prog 285 #[] w fun e w'=>(∃v,e= .returned v∧bC w' v gP)∧Below w.heap.size w w':=by
 go_enter func285,ntmps285;go_wp2_with fail;go_ret;exact⟨⟨_,rfl,bC.blk (xs:=gP) (ac.new w (gP.map (Value.int .i64)) _) rfl 3⟩,(Below.refl _ _).alloc (Nat.le_refl _) _⟩
theorem C5 {g:aH} (h:cA g):kh gP [g.blocks,g.lbas,g.first]:=by
 obtain⟨d,e,f,j,k,l⟩:=h;have m:(256:Nat)^4=4294967296:=rfl;refine⟨rfl,fun i a x b c=> ?_⟩
 match i,b,c with
 |0,b,c=>simp[gP]at b c;subst b;subst c;simp;omega
 |1,b,c=>simp[gP]at b c;subst b;subst c;simp;omega
 |2,b,c=>simp[gP]at b c;subst b;subst c;simp;omega
theorem xq (g:aH):da gP [g.blocks,g.lbas,g.first]=kf g:=by simp[da,gP,kf]
theorem mJ (g:aH) (w:World) (hg:cA g):
  Calls prog 254 #[g.v] w fun e w'=>∃r,e= .returned (.tuple #[.string r, .int .i64 0])∧ah r (kf g)∧Below w.heap.size w w':=by
 go_enter func254,ntmps254
 go_wp2_with (first
  |((with_reducible refine ae 23 (.tmp 0) g.cells (some 1) ?hgd ?ho ?hd ?hx ?_);(case hgd|ho|hd|hx=>rfl);(intro H U O J N P))
  |((with_reducible refine ao 23 (.tmp 1) H 0 g.cells _ (some 5) J.range underlying23 rfl bG ?hg ?ho ?hds ?hx ?_);(case ho|hg|hds|hx=>rfl))
  |fail)
 refine(fj g _ hg).mono ?_
 rintro e R ⟨rfl,E⟩;have z:=hid (J.below E P);have G:=hid ((N.mono O).trans (E.mono (Nat.le_trans O (Nat.le_of_lt P))));clear E J N;go_upto_region 4 with fail;refine wp_region_held_drew (S:=fun M=>M.cell? ⟨H,0,none⟩=some (.int .i64 g.blocks)∧M.cell? ⟨H,1,none⟩=some (.int .i64 g.lbas)∧M.cell? ⟨H,2,none⟩=some (.int .i64 g.first)) (by kernel_rfl) (⟨z.cell (i:=0) rfl,z.cell (i:=1) rfl,z.cell (i:=2) rfl⟩) (fun b=> ?_);obtain⟨A,y⟩:∃A,A=R.drew:=⟨_,rfl⟩;have s:Hid (ac A H g.cells 23):=hid (by rw[y];exact z.drew);have j:Hid (Below w.heap.size w A):=hid (by rw[y];exact G.drew);rw[←y];rw[←y]at b;clear y;refine hp 1 ?_;refine hp 2 ?_;refine hp 3 ?_;refine hp 4 ?_;refine hp 5 ?_;refine hp 6 ?_;refine wpAnyH_ready (rs:=[0,7]) (by kernel_rfl) (by simp) ?_;refine AllReadyH.cons rfl (fun K l=> ?_) (AllReadyH.cons rfl (fun K l=> ?_) AllReadyH.nil)
 ·go_simp
  refine(ki _).mono ?_
  rintro e wa ⟨⟨Q,rfl,x⟩,m⟩;have c:=hid (s.below m s.lt);have f:=hid (j.trans (m.mono j.size));have D:=hid x
  skip
  clear m x
  (try go_wp2_with fail)
  refine l.out _ _ (⟨c.cell (i:=0) rfl,c.cell (i:=1) rfl,c.cell (i:=2) rfl⟩) (fun a=> ?_);clear l K b;have b:=a;clear a
  (try go_frame)
  refine wpAnyH_ready (rs:=[7]) (by kernel_rfl) (by simp) ?_;refine AllReadyH.cons rfl (fun K l=> ?_) AllReadyH.nil;go_simp;obtain⟨wb,k⟩:∃L,L=wa.alloc (Obj.cells #[Value.int IntKind.i64 g.blocks,Value.int IntKind.i64 g.lbas,Value.int IntKind.i64 g.first] 3):=⟨_,rfl⟩;rw[←k];have n:Below wa.heap.size wa wb:=by rw[k];exact(Below.refl _ _).alloc (Nat.le_refl _) _
  have F:ac wb wa.heap.size [.int .i64 g.blocks, .int .i64 g.lbas, .int .i64 g.first] 3:=by rw[k];exact ac.new wa _ _
  have u:=hid F;have d:=hid (c.below n c.lt);have h:=hid (f.trans (n.mono f.size));have p:=hid (D.below n (Nat.le_refl _));clear n F k
  (try go_wp2_with fail)
  refine l.out _ _ (⟨d.cell (i:=0) rfl,d.cell (i:=1) rfl,d.cell (i:=2) rfl⟩) (fun a=> ?_);clear l K b;have b:=a;clear a
  (try go_frame)
  refine wpAnyH_ready (rs:=[8]) (by kernel_rfl) (by simp) ?_;refine AllReadyH.cons rfl (fun K l=> ?_) AllReadyH.nil;go_simp
  refine(fc _ _ gP [g.blocks,g.lbas,g.first] _ p.out (bC.blk (xs:=[g.blocks,g.lbas,g.first]) u.out rfl 3) (by show 0<3;decide) (by show 3≤16;decide) (C5 hg)).mono ?_
  rintro e T ⟨r,rfl,I,q⟩;have o:=hid (d.below q d.lt);have t:=hid (h.trans (q.mono h.size));have C:=hid I;clear q I
  (try go_wp2_with fail)
  refine l.out _ _ (⟨o.cell (i:=0) rfl,o.cell (i:=1) rfl,o.cell (i:=2) rfl⟩) (fun a=> ?_);clear l K b;have b:=a;clear a
  (try go_frame)
  refine hp 9 ?_;refine hp 10 ?_;refine hp 11 ?_;refine hp 12 ?_;refine wpAnyH_done (by kernel_rfl) ?_ _;go_wp2_with fail;go_ret2;exact⟨_,rfl,by rw[←xq];exact C.out,t.out⟩
 ·go_simp
  obtain⟨wa,k⟩:∃L,L=A.alloc (Obj.cells #[Value.int IntKind.i64 g.blocks,Value.int IntKind.i64 g.lbas,Value.int IntKind.i64 g.first] 3):=⟨_,rfl⟩;rw[←k];have n:Below A.heap.size A wa:=by rw[k];exact(Below.refl _ _).alloc (Nat.le_refl _) _
  have F:ac wa A.heap.size [.int .i64 g.blocks, .int .i64 g.lbas, .int .i64 g.first] 3:=by rw[k];exact ac.new A _ _
  have B:=hid F;have c:=hid (s.below n s.lt);have f:=hid (j.trans (n.mono j.size))
  skip
  clear n F k
  (try go_wp2_with fail)
  refine l.out _ _ (⟨c.cell (i:=0) rfl,c.cell (i:=1) rfl,c.cell (i:=2) rfl⟩) (fun a=> ?_);clear l K b;have b:=a;clear a
  (try go_frame)
  refine wpAnyH_ready (rs:=[0]) (by kernel_rfl) (by simp) ?_;refine AllReadyH.cons rfl (fun K l=> ?_) AllReadyH.nil;go_simp
  refine(ki _).mono ?_
  rintro e wb ⟨⟨Q,rfl,x⟩,m⟩;have d:=hid (c.below m c.lt);have h:=hid (f.trans (m.mono f.size));have p:=hid x;have u:=hid (B.below m B.lt);clear m x
  (try go_wp2_with fail)
  refine l.out _ _ (⟨d.cell (i:=0) rfl,d.cell (i:=1) rfl,d.cell (i:=2) rfl⟩) (fun a=> ?_);clear l K b;have b:=a;clear a
  (try go_frame)
  refine wpAnyH_ready (rs:=[8]) (by kernel_rfl) (by simp) ?_;refine AllReadyH.cons rfl (fun K l=> ?_) AllReadyH.nil;go_simp
  refine(fc _ _ gP [g.blocks,g.lbas,g.first] _ p.out (bC.blk (xs:=[g.blocks,g.lbas,g.first]) u.out rfl 3) (by show 0<3;decide) (by show 3≤16;decide) (C5 hg)).mono ?_
  rintro e T ⟨r,rfl,I,q⟩;have o:=hid (d.below q d.lt);have t:=hid (h.trans (q.mono h.size));have C:=hid I;clear q I
  (try go_wp2_with fail)
  refine l.out _ _ (⟨o.cell (i:=0) rfl,o.cell (i:=1) rfl,o.cell (i:=2) rfl⟩) (fun a=> ?_);clear l K b;have b:=a;clear a
  (try go_frame)
  refine hp 9 ?_;refine hp 10 ?_;refine hp 11 ?_;refine hp 12 ?_;refine wpAnyH_done (by kernel_rfl) ?_ _;go_wp2_with fail;go_ret2;exact⟨_,rfl,by rw[←xq];exact C.out,t.out⟩
section
variable {P:Program} {o:Oper} {a:Act} {w:World} {K:Act→World→Prop} {Q:Exit→Act→World→Prop}
theorem kj (d:TypeId) (x y:Operand) (b:Nat) (c cs:List Value) (t:TypeId) (hb:ac w b c t) (hl:cs.length=c.length)
  (g:(P.info? d).map (·.size)=some cs.length) (f:∀v∈cs,v.oneCell'=true)
  (i:o.op= .store d x y) (j:a.eval x= .pointer (some ⟨b,0,none⟩)) (hy:a.eval y= .agg cs.toArray)
  (h:∀e,ac e b cs t→de b w e→K (a.put o.dst undef) e):o.wp P a w K Q:=
 wp_store_mid d x y i b 0 cs.toArray j hy (World.there_of hb (by simpa using hl)) (by simpa using g) (all_oneCell_toArray f) (by simpa using h _ (hb.setAll cs hl) ((de.refl b w).setCells cs 0))
end
theorem aY {g:Func} {p:Tmp} {f:TypeId} {cs:List Value} {d:TypeDesc} (h:g.results=#[.cell p f]) (c:Array Value) (w:World) {b:Nat} (hb:w.rangeAt b 0 cs) (hp:c.getD p undef= .pointer (some ⟨b,0,none⟩))
  (hu:prog.underlying f=some d) (hd:d.isRow=true) (j:(prog.info? f).map (·.size)=some cs.length):
  (results g c).run prog w= .ok (.agg cs.toArray) w:=by
 have e:=run_loadVar_mid (P:=prog) w b 0 f cs _ hb hu hd j
 have i:(results g c).run prog w=((asAddr (c.getD p undef)).run prog w).andThen fun a w₁=>(loadVar f a).run prog w₁:=by
  simp only[results,h];simp[Sem.run_bind]
 rw[i,hp];simp only[asAddr,Sem.run_pure,Result.andThen_ok,e]
end Go.Proofs.YtadooplpfhdhcaaGreat
