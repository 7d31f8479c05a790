/- Walks of package record: names, within, rest. Walk of record.rest, by kinds. Walk of the documents' Right (chapter 19). Walk of record.Check. Walks of the documents' Ints, Bytes (chapter 01) and Join (chapter 02): rows of numbers and texts that came in. -/
import Derived.Test.YtgimkmclgjfddaaGreatQ5
import Derived.Test.YtgimkmclgjfddaaGreatQ6
import Derived.Test.YtgimkmclgjfddaaGreatQ2
import Derived.OwnWalk
import Derived.RegionTactic
import Derived.ChangeAlike
import Derived.Deep.QuietTactic
import Derived.BigQuiet
import Derived.Deep.RegionHeld3
set_option linter.unusedSimpArgs false
set_option linter.unusedVariables false
set_option maxRecDepth 100000
set_option maxHeartbeats 4000000
namespace Go.Proofs.YtgimkmclgjfddaaGreat
open Go Go.RowKit
theorem bp {a b:Bool} (h:a=b):Ending.returned (Value.bool a)=Ending.returned (Value.bool b):=by rw[h]
theorem oj {a b:Int} (h:a=b):Ending.returned (Value.int .i64 a)=Ending.returned (Value.int .i64 b):=by rw[h]
theorem aG (s:ByteArray):s.toList.isEmpty=decide (s.size=0):=by
 by_cases h:s.size=0
 ·rw[emptyText (s:=s) (by omega)];simp[h]
 ·rw[kC (s:=s) (by omega)];simp[h]
theorem bT (n m:Int) (w:World):
  Calls Tryz.prog 172 #[.int .i64 n, .int .i64 m] w fun e w'=>e= .returned (.bool (decide (0≤n)&&decide (n≤m)))∧w=w':=by
 go_enter Tryz.func172,Tryz.ntmps172
 go_wp2_with fail
 all_goals go_ret
 all_goals refine⟨bp ?_,rfl⟩
 all_goals simp
 all_goals omega
theorem lg (c:UInt8):dx c=false↔((c.toNat<97∨122<c.toNat)∧(c.toNat<48∨57<c.toNat)):=by
 unfold dx
 simp
 omega
theorem vQ (l:List UInt8) (k:Nat) (c:UInt8) (hc:l[k]?=some c):(l.take (k+1)).all dx=((l.take k).all dx&&dx c):=by
 obtain⟨h1,rfl⟩:=List.getElem?_eq_some_iff.1 hc
 rw[List.take_succ_eq_append_getElem h1,List.all_append]
 simp
theorem DJ {l:List UInt8} {k:Nat} {c:UInt8} (hc:l[k]?=some c) (h:dx c=false):l.all dx=false:=by
 rw[List.all_eq_false]
 exact⟨c,List.mem_of_getElem? hc,by rw[h];decide⟩
theorem eU (s:ByteArray) (w:World) (hs:s.size≤1073741824):
  Calls Tryz.prog 150 #[.string s] w fun e w'=>e= .returned (.bool (cJ s.data.toList))∧w=w':=by
 have hl:s.data.toList.length=s.size:=rfl
 have HL:=Lib.hid hl;clear hl
 by_cases c0:s.size=0
 ·have d0:=emptyText (s:=s) (by omega)
  have HD:=Lib.hid c0;clear c0
  go_enter Tryz.func150,Tryz.ntmps150
  go_wp2_with fail
  go_loop [6] (fun i=>i= .int .i64 0) (fun _=>0)
  case atStart=>rfl
  case round=>
   subst hrel
   have hz:(s.size:Int)≤0:=by have:=HD.out;omega
   go_wp2_with fail
   go_ret
   exact⟨bp (by unfold cJ;rw[HL.out,HD.out];rfl),rfl⟩
 have d0:=kC (s:=s) (by omega)
 go_enter Tryz.func150,Tryz.ntmps150
 go_wp2_with fail
 go_loop [6] (fun i=>∃k:Nat,k≤s.size∧i= .int .i64 k∧(s.data.toList.take k).all dx=true) (fun i=>s.size-(intOf i).toNat)
 case atStart=>exact⟨0,by omega,rfl,rfl⟩
 case round=>
  obtain⟨k,hk,rfl,hall⟩:=hrel
  have HA:=Lib.hid hall;clear hall
  by_cases hlt:k<s.size
  ·have hlt':(k:Int)<s.size:=by omega
   obtain⟨c,hc⟩:∃c,s[k]=c:=⟨_,rfl⟩
   have hck:s.data.toList[k]?=some c:=by rw[List.getElem?_eq_getElem (by rw[HL.out];exact hlt),←hc];rfl
   have HC:=Lib.hid hck;clear hck
   have hc8:=c.toNat_lt
   go_wp2_with fail
   all_goals try(
    go_round
    case rel=>
     refine⟨k+1,by omega,by go_num, ?_⟩
     rw[vQ _ _ _ HC.out,HA.out]
     simp only[Bool.true_and]
     cases hb:dx c with
     |true=>rfl
     |false=>rw[lg]at hb;exfalso;simp_all;omega
    case measure=>simp[intOf];omega)
   all_goals
    go_ret
    refine⟨bp ?_,rfl⟩
    have hno:dx c=false:=by rw[lg];simp_all;omega
    unfold cJ
    rw[DJ HC.out hno]
    simp
  ·obtain rfl:k=s.size:=by omega
   go_wp2_with fail
   all_goals go_ret
   all_goals refine⟨bp ?_,rfl⟩
   all_goals
    have hall:=HA.out
    rw[List.take_of_length_le (by rw[HL.out];omega)]at hall
    unfold cJ
    rw[hall,HL.out]
    rw[show decide ((s.size:Int)≤16)=decide (s.size≤16)from decide_eq_decide.2 (by omega),decide_eq_true (show 1≤s.size by omega)]
    simp
theorem gC (s:ByteArray) (w:World):
  Calls Tryz.prog 271 #[.string s] w fun e w'=>e= .returned (.bool (cJ s.data.toList))∧w=w':=by
 have hl:s.data.toList.length=s.size:=rfl
 have HL:=Lib.hid hl;clear hl
 by_cases c1:s.size<1
 ·have d1:(s.size:Int)<1:=by omega
  go_enter Tryz.func271,Tryz.ntmps271
  go_wp2_with fail
  go_ret
  exact⟨bp (by unfold cJ;rw[HL.out,show s.size=0 by omega];rfl),rfl⟩
 by_cases c2:16<s.size
 ·have d1:(1:Int)≤s.size:=by omega
  have d2:(16:Int)<s.size:=by omega
  go_enter Tryz.func271,Tryz.ntmps271
  go_wp2_with fail
  go_ret
  refine⟨bp ?_,rfl⟩
  unfold cJ
  rw[HL.out,decide_eq_false (show¬s.size≤16 by omega)]
  simp
 have d1:(1:Int)≤s.size:=by omega
 have d2:(s.size:Int)≤16:=by omega
 go_enter Tryz.func271,Tryz.ntmps271
 go_wp2_with fail
 go_loop [3] (fun i=>∃k:Nat,k≤s.size∧i= .int .i64 k∧(s.data.toList.take k).all dx=true) (fun i=>s.size-(intOf i).toNat)
 case atStart=>exact⟨0,by omega,rfl,rfl⟩
 case round=>
  obtain⟨k,hk,rfl,hall⟩:=hrel
  have HA:=Lib.hid hall;clear hall
  by_cases hlt:k<s.size
  ·have hlt':(k:Int)<s.size:=by omega
   obtain⟨c,hc⟩:∃c,s[k]=c:=⟨_,rfl⟩
   have hck:s.data.toList[k]?=some c:=by rw[List.getElem?_eq_getElem (by rw[HL.out];exact hlt),←hc];rfl
   have HC:=Lib.hid hck;clear hck
   have hc8:=c.toNat_lt
   go_wp2_with fail
   all_goals try(
    go_round
    case rel=>
     refine⟨k+1,by omega,by go_num, ?_⟩
     rw[vQ _ _ _ HC.out,HA.out]
     simp only[Bool.true_and]
     cases hb:dx c with
     |true=>rfl
     |false=>rw[lg]at hb;exfalso;simp_all;omega
    case measure=>simp[intOf];omega)
   all_goals
    go_ret
    refine⟨bp ?_,rfl⟩
    have hno:dx c=false:=by rw[lg];simp_all;omega
    unfold cJ
    rw[DJ HC.out hno]
    simp
  ·obtain rfl:k=s.size:=by omega
   go_wp2_with fail
   go_ret
   refine⟨bp ?_,rfl⟩
   have hall:=HA.out
   rw[List.take_of_length_le (by rw[HL.out];omega)]at hall
   unfold cJ
   rw[hall,HL.out]
   simp
   omega
theorem II (epoch time count target till:Int) (root name:ByteArray) (w:World) (hname:name.size≤1073741824) (E1:Int) (hE1:wrap64 (epoch-1)=E1):
  Calls Tryz.prog 171 #[.agg #[.int .i64 1, .int .i64 epoch, .int .i64 time, .int .i64 count, .int .i64 target, .int .i64 till, .string root, .string name]] w
   fun e w'=>e= .returned (.tuple #[.agg #[.int .i64 0, .int .i64 0, .int .i64 0, .int .i64 0, .int .i64 target, .int .i64 till, .string ⟨#[]⟩, .string name], .bool ((decide (0≤count)&&decide (count≤4096))&&decide (root.size=32))])∧Below w.heap.size w w':=by
 have z3:((root.size:Int)==32)=decide (root.size=32):=by rw[Bool.eq_iff_iff];simp;omega
 go_enter Tryz.func171,Tryz.ntmps171
 go_wp2_with (first|(go_at_call 172;refine(bT _ _ _).mono ?_;rintro e w1 ⟨rfl,rfl⟩)|(go_at_call 150;refine(eU _ _ hname).mono ?_;rintro e w1 ⟨rfl,rfl⟩))
 all_goals go_region
 all_goals go_wp2_with fail
 all_goals(refine bodyPost_ret (v:= .tuple #[.agg #[.int .i64 0, .int .i64 0, .int .i64 0, .int .i64 0, .int .i64 target, .int .i64 till, .string ⟨#[]⟩, .string name], .bool ((decide (0≤count)&&decide (count≤4096))&&decide (root.size=32))]) ?_ rfl ⟨rfl, ?_⟩)
 all_goals first
  |(simp[results,Tryz.results171,go_sem];done)
  |(simp[results,Tryz.results171,go_sem];omega)
  |(simp[results,Tryz.results171,go_sem, *];done)
  |skip
 all_goals try(repeat(first|exact Below.refl _ _|assumption|(with_reducible refine Below.drew ?_)|(with_reducible refine Below.setCell ?_ ?_ _)|(with_reducible refine Below.alloc ?_ ?_ _)))
 all_goals try(simp;done)
 all_goals try(simp;omega)
theorem IJ (epoch time count target till:Int) (root name:ByteArray) (w:World) (hname:name.size≤1073741824) (E1:Int) (hE1:wrap64 (epoch-1)=E1):
  Calls Tryz.prog 171 #[.agg #[.int .i64 2, .int .i64 epoch, .int .i64 time, .int .i64 count, .int .i64 target, .int .i64 till, .string root, .string name]] w
   fun e w'=>e= .returned (.tuple #[.agg #[.int .i64 0, .int .i64 0, .int .i64 0, .int .i64 count, .int .i64 0, .int .i64 0, .string root, .string name], .bool ((decide (0≤till)&&decide (till≤1099511627776))&&(decide (0≤target)&&decide (target≤E1)))])∧Below w.heap.size w w':=by
 skip
 go_enter Tryz.func171,Tryz.ntmps171
 go_wp2_with (first|(go_at_call 172;refine(bT _ _ _).mono ?_;rintro e w1 ⟨rfl,rfl⟩)|(go_at_call 150;refine(eU _ _ hname).mono ?_;rintro e w1 ⟨rfl,rfl⟩))
 all_goals(go_in;go_wp2_with (first|(go_at_call 172;refine(bT _ _ _).mono ?_;rintro e w1 ⟨rfl,rfl⟩)|(go_at_call 150;refine(eU _ _ hname).mono ?_;rintro e w1 ⟨rfl,rfl⟩)))
 all_goals go_region
 all_goals go_wp2_with fail
 all_goals(refine bodyPost_ret (v:= .tuple #[.agg #[.int .i64 0, .int .i64 0, .int .i64 0, .int .i64 count, .int .i64 0, .int .i64 0, .string root, .string name], .bool ((decide (0≤till)&&decide (till≤1099511627776))&&(decide (0≤target)&&decide (target≤E1)))]) ?_ rfl ⟨rfl, ?_⟩)
 all_goals first
  |(simp[results,Tryz.results171,go_sem];done)
  |(simp[results,Tryz.results171,go_sem];omega)
  |(simp[results,Tryz.results171,go_sem, *];done)
  |skip
 all_goals try(repeat(first|exact Below.refl _ _|assumption|(with_reducible refine Below.drew ?_)|(with_reducible refine Below.setCell ?_ ?_ _)|(with_reducible refine Below.alloc ?_ ?_ _)))
 all_goals try(simp;done)
 all_goals try(simp;omega)
theorem IK (epoch time count target till:Int) (root name:ByteArray) (w:World) (hname:name.size≤1073741824) (E1:Int) (hE1:wrap64 (epoch-1)=E1):
  Calls Tryz.prog 171 #[.agg #[.int .i64 5, .int .i64 epoch, .int .i64 time, .int .i64 count, .int .i64 target, .int .i64 till, .string root, .string name]] w
   fun e w'=>e= .returned (.tuple #[.agg #[.int .i64 0, .int .i64 0, .int .i64 0, .int .i64 count, .int .i64 0, .int .i64 0, .string root, .string name], .bool ((decide (0≤till)&&decide (till≤1099511627776))&&(decide (0≤target)&&decide (target≤E1)))])∧Below w.heap.size w w':=by
 skip
 go_enter Tryz.func171,Tryz.ntmps171
 go_wp2_with (first|(go_at_call 172;refine(bT _ _ _).mono ?_;rintro e w1 ⟨rfl,rfl⟩)|(go_at_call 150;refine(eU _ _ hname).mono ?_;rintro e w1 ⟨rfl,rfl⟩))
 all_goals(go_in;go_wp2_with (first|(go_at_call 172;refine(bT _ _ _).mono ?_;rintro e w1 ⟨rfl,rfl⟩)|(go_at_call 150;refine(eU _ _ hname).mono ?_;rintro e w1 ⟨rfl,rfl⟩)))
 all_goals go_region
 all_goals go_wp2_with fail
 all_goals(refine bodyPost_ret (v:= .tuple #[.agg #[.int .i64 0, .int .i64 0, .int .i64 0, .int .i64 count, .int .i64 0, .int .i64 0, .string root, .string name], .bool ((decide (0≤till)&&decide (till≤1099511627776))&&(decide (0≤target)&&decide (target≤E1)))]) ?_ rfl ⟨rfl, ?_⟩)
 all_goals first
  |(simp[results,Tryz.results171,go_sem];done)
  |(simp[results,Tryz.results171,go_sem];omega)
  |(simp[results,Tryz.results171,go_sem, *];done)
  |skip
 all_goals try(repeat(first|exact Below.refl _ _|assumption|(with_reducible refine Below.drew ?_)|(with_reducible refine Below.setCell ?_ ?_ _)|(with_reducible refine Below.alloc ?_ ?_ _)))
 all_goals try(simp;done)
 all_goals try(simp;omega)
theorem IL (epoch time count target till:Int) (root name:ByteArray) (w:World) (hname:name.size≤1073741824) (E1:Int) (hE1:wrap64 (epoch-1)=E1):
  Calls Tryz.prog 171 #[.agg #[.int .i64 3, .int .i64 epoch, .int .i64 time, .int .i64 count, .int .i64 target, .int .i64 till, .string root, .string name]] w
   fun e w'=>e= .returned (.tuple #[.agg #[.int .i64 0, .int .i64 0, .int .i64 0, .int .i64 count, .int .i64 0, .int .i64 till, .string root, .string ⟨#[]⟩], .bool ((decide (0≤target)&&decide (target≤E1))&&cJ name.data.toList)])∧Below w.heap.size w w':=by
 skip
 go_enter Tryz.func171,Tryz.ntmps171
 go_wp2_with (first|(go_at_call 172;refine(bT _ _ _).mono ?_;rintro e w1 ⟨rfl,rfl⟩)|(go_at_call 150;refine(eU _ _ hname).mono ?_;rintro e w1 ⟨rfl,rfl⟩))
 all_goals(go_in;go_wp2_with (first|(go_at_call 172;refine(bT _ _ _).mono ?_;rintro e w1 ⟨rfl,rfl⟩)|(go_at_call 150;refine(eU _ _ hname).mono ?_;rintro e w1 ⟨rfl,rfl⟩)))
 all_goals go_region
 all_goals go_wp2_with fail
 all_goals(refine bodyPost_ret (v:= .tuple #[.agg #[.int .i64 0, .int .i64 0, .int .i64 0, .int .i64 count, .int .i64 0, .int .i64 till, .string root, .string ⟨#[]⟩], .bool ((decide (0≤target)&&decide (target≤E1))&&cJ name.data.toList)]) ?_ rfl ⟨rfl, ?_⟩)
 all_goals first
  |(simp[results,Tryz.results171,go_sem];done)
  |(simp[results,Tryz.results171,go_sem];omega)
  |(simp[results,Tryz.results171,go_sem, *];done)
  |skip
 all_goals try(repeat(first|exact Below.refl _ _|assumption|(with_reducible refine Below.drew ?_)|(with_reducible refine Below.setCell ?_ ?_ _)|(with_reducible refine Below.alloc ?_ ?_ _)))
 all_goals try(simp;done)
 all_goals try(simp;omega)
theorem IM (epoch time count target till:Int) (root name:ByteArray) (w:World) (hname:name.size≤1073741824) (E1:Int) (hE1:wrap64 (epoch-1)=E1):
  Calls Tryz.prog 171 #[.agg #[.int .i64 4, .int .i64 epoch, .int .i64 time, .int .i64 count, .int .i64 target, .int .i64 till, .string root, .string name]] w
   fun e w'=>e= .returned (.tuple #[.agg #[.int .i64 0, .int .i64 0, .int .i64 0, .int .i64 count, .int .i64 target, .int .i64 till, .string root, .string ⟨#[]⟩], .bool (cJ name.data.toList)])∧Below w.heap.size w w':=by
 skip
 go_enter Tryz.func171,Tryz.ntmps171
 go_wp2_with (first|(go_at_call 172;refine(bT _ _ _).mono ?_;rintro e w1 ⟨rfl,rfl⟩)|(go_at_call 150;refine(eU _ _ hname).mono ?_;rintro e w1 ⟨rfl,rfl⟩))
 all_goals go_region
 all_goals go_wp2_with fail
 all_goals(refine bodyPost_ret (v:= .tuple #[.agg #[.int .i64 0, .int .i64 0, .int .i64 0, .int .i64 count, .int .i64 target, .int .i64 till, .string root, .string ⟨#[]⟩], .bool (cJ name.data.toList)]) ?_ rfl ⟨rfl, ?_⟩)
 all_goals first
  |(simp[results,Tryz.results171,go_sem];done)
  |(simp[results,Tryz.results171,go_sem];omega)
  |(simp[results,Tryz.results171,go_sem, *];done)
  |skip
 all_goals try(repeat(first|exact Below.refl _ _|assumption|(with_reducible refine Below.drew ?_)|(with_reducible refine Below.setCell ?_ ?_ _)|(with_reducible refine Below.alloc ?_ ?_ _)))
 all_goals try(simp;done)
 all_goals try(simp;omega)
theorem IP (kind epoch time count target till:Int) (root name:ByteArray) (w:World) (hname:name.size≤1073741824) (E1:Int) (hE1:wrap64 (epoch-1)=E1) (k1:¬kind=1) (k2:¬kind=2) (k5:¬kind=5) (k3:¬kind=3) (k4:¬kind=4):
  Calls Tryz.prog 171 #[.agg #[.int .i64 kind, .int .i64 epoch, .int .i64 time, .int .i64 count, .int .i64 target, .int .i64 till, .string root, .string name]] w
   fun e w'=>e= .returned (.tuple #[.agg #[.int .i64 0, .int .i64 0, .int .i64 0, .int .i64 count, .int .i64 target, .int .i64 till, .string root, .string name], .bool (false)])∧Below w.heap.size w w':=by
 skip
 go_enter Tryz.func171,Tryz.ntmps171
 go_wp2_with (first|(go_at_call 172;refine(bT _ _ _).mono ?_;rintro e w1 ⟨rfl,rfl⟩)|(go_at_call 150;refine(eU _ _ hname).mono ?_;rintro e w1 ⟨rfl,rfl⟩))
 all_goals go_region
 all_goals go_wp2_with fail
 all_goals(refine bodyPost_ret (v:= .tuple #[.agg #[.int .i64 0, .int .i64 0, .int .i64 0, .int .i64 count, .int .i64 target, .int .i64 till, .string root, .string name], .bool (false)]) ?_ rfl ⟨rfl, ?_⟩)
 all_goals first
  |(simp[results,Tryz.results171,go_sem];done)
  |(simp[results,Tryz.results171,go_sem];omega)
  |(simp[results,Tryz.results171,go_sem, *];done)
  |skip
 all_goals try(repeat(first|exact Below.refl _ _|assumption|(with_reducible refine Below.drew ?_)|(with_reducible refine Below.setCell ?_ ?_ _)|(with_reducible refine Below.alloc ?_ ?_ _)))
 all_goals try(simp;done)
 all_goals try(simp;omega)
theorem GE (epoch time count target till:Int) (root name:ByteArray) (w:World):
  Calls Tryz.prog 340 #[.agg #[.int .i64 1, .int .i64 epoch, .int .i64 time, .int .i64 count, .int .i64 target, .int .i64 till, .string root, .string name]] w
   fun e w'=>e= .returned (.bool (am ⟨1,epoch,time,count,target,till,root,name⟩))∧Below w.heap.size w w':=by
 have z1:=aG root
 have z2:=aG name
 go_enter Tryz.func340,Tryz.ntmps340
 go_wp2_with (go_at_call 271;refine(gC _ _).mono ?_;rintro e w1 ⟨rfl,rfl⟩)
 all_goals go_ret
 all_goals refine⟨bp ?_,(Below.refl _ _).alloc (Nat.le_refl _) _⟩
 all_goals first
  |(simp[am,au];omega)
  |(simp[am,au, *];done)
  |(rw[aG];simp[am,au];omega)
  |(rw[aG];simp[am,au, *];done)
  |(rw[Bool.eq_iff_iff];simp[am,au];omega)
  |(rw[Bool.eq_iff_iff];simp[am,au, *];omega)
  |(rw[Bool.eq_iff_iff];simp[am,au, *];done)
theorem GF (epoch time count target till:Int) (root name:ByteArray) (w:World):
  Calls Tryz.prog 340 #[.agg #[.int .i64 2, .int .i64 epoch, .int .i64 time, .int .i64 count, .int .i64 target, .int .i64 till, .string root, .string name]] w
   fun e w'=>e= .returned (.bool (am ⟨2,epoch,time,count,target,till,root,name⟩))∧Below w.heap.size w w':=by
 have z1:=aG root
 have z2:=aG name
 go_enter Tryz.func340,Tryz.ntmps340
 go_wp2_with (go_at_call 271;refine(gC _ _).mono ?_;rintro e w1 ⟨rfl,rfl⟩)
 all_goals go_ret
 all_goals refine⟨bp ?_,(Below.refl _ _).alloc (Nat.le_refl _) _⟩
 all_goals first
  |(simp[am,au];omega)
  |(simp[am,au, *];done)
  |(rw[aG];simp[am,au];omega)
  |(rw[aG];simp[am,au, *];done)
  |(rw[Bool.eq_iff_iff];simp[am,au];omega)
  |(rw[Bool.eq_iff_iff];simp[am,au, *];omega)
  |(rw[Bool.eq_iff_iff];simp[am,au, *];done)
theorem GG (epoch time count target till:Int) (root name:ByteArray) (w:World):
  Calls Tryz.prog 340 #[.agg #[.int .i64 5, .int .i64 epoch, .int .i64 time, .int .i64 count, .int .i64 target, .int .i64 till, .string root, .string name]] w
   fun e w'=>e= .returned (.bool (am ⟨5,epoch,time,count,target,till,root,name⟩))∧Below w.heap.size w w':=by
 have z1:=aG root
 have z2:=aG name
 go_enter Tryz.func340,Tryz.ntmps340
 go_wp2_with (go_at_call 271;refine(gC _ _).mono ?_;rintro e w1 ⟨rfl,rfl⟩)
 all_goals go_ret
 all_goals refine⟨bp ?_,(Below.refl _ _).alloc (Nat.le_refl _) _⟩
 all_goals first
  |(simp[am,au];omega)
  |(simp[am,au, *];done)
  |(rw[aG];simp[am,au];omega)
  |(rw[aG];simp[am,au, *];done)
  |(rw[Bool.eq_iff_iff];simp[am,au];omega)
  |(rw[Bool.eq_iff_iff];simp[am,au, *];omega)
  |(rw[Bool.eq_iff_iff];simp[am,au, *];done)
theorem GH (epoch time count target till:Int) (root name:ByteArray) (w:World):
  Calls Tryz.prog 340 #[.agg #[.int .i64 3, .int .i64 epoch, .int .i64 time, .int .i64 count, .int .i64 target, .int .i64 till, .string root, .string name]] w
   fun e w'=>e= .returned (.bool (am ⟨3,epoch,time,count,target,till,root,name⟩))∧Below w.heap.size w w':=by
 have z1:=aG root
 have z2:=aG name
 go_enter Tryz.func340,Tryz.ntmps340
 go_wp2_with (go_at_call 271;refine(gC _ _).mono ?_;rintro e w1 ⟨rfl,rfl⟩)
 all_goals go_ret
 all_goals refine⟨bp ?_,(Below.refl _ _).alloc (Nat.le_refl _) _⟩
 all_goals first
  |(simp[am,au];omega)
  |(simp[am,au, *];done)
  |(rw[aG];simp[am,au];omega)
  |(rw[aG];simp[am,au, *];done)
  |(rw[Bool.eq_iff_iff];simp[am,au];omega)
  |(rw[Bool.eq_iff_iff];simp[am,au, *];omega)
  |(rw[Bool.eq_iff_iff];simp[am,au, *];done)
theorem GI (epoch time count target till:Int) (root name:ByteArray) (w:World):
  Calls Tryz.prog 340 #[.agg #[.int .i64 4, .int .i64 epoch, .int .i64 time, .int .i64 count, .int .i64 target, .int .i64 till, .string root, .string name]] w
   fun e w'=>e= .returned (.bool (am ⟨4,epoch,time,count,target,till,root,name⟩))∧Below w.heap.size w w':=by
 have z1:=aG root
 have z2:=aG name
 go_enter Tryz.func340,Tryz.ntmps340
 go_wp2_with (go_at_call 271;refine(gC _ _).mono ?_;rintro e w1 ⟨rfl,rfl⟩)
 all_goals go_ret
 all_goals refine⟨bp ?_,(Below.refl _ _).alloc (Nat.le_refl _) _⟩
 all_goals first
  |(simp[am,au];omega)
  |(simp[am,au, *];done)
  |(rw[aG];simp[am,au];omega)
  |(rw[aG];simp[am,au, *];done)
  |(rw[Bool.eq_iff_iff];simp[am,au];omega)
  |(rw[Bool.eq_iff_iff];simp[am,au, *];omega)
  |(rw[Bool.eq_iff_iff];simp[am,au, *];done)
theorem GK (kind epoch time count target till:Int) (root name:ByteArray) (w:World) (k1:¬kind=1) (k2:¬kind=2) (k5:¬kind=5) (k3:¬kind=3) (k4:¬kind=4):
  Calls Tryz.prog 340 #[.agg #[.int .i64 kind, .int .i64 epoch, .int .i64 time, .int .i64 count, .int .i64 target, .int .i64 till, .string root, .string name]] w
   fun e w'=>e= .returned (.bool (am ⟨kind,epoch,time,count,target,till,root,name⟩))∧Below w.heap.size w w':=by
 have z1:=aG root
 have z2:=aG name
 go_enter Tryz.func340,Tryz.ntmps340
 go_wp2_with (go_at_call 271;refine(gC _ _).mono ?_;rintro e w1 ⟨rfl,rfl⟩)
 all_goals go_ret
 all_goals refine⟨bp ?_,(Below.refl _ _).alloc (Nat.le_refl _) _⟩
 all_goals first
  |(simp[am,au];omega)
  |(simp[am,au, *];done)
  |(rw[aG];simp[am,au];omega)
  |(rw[aG];simp[am,au, *];done)
  |(rw[Bool.eq_iff_iff];simp[am,au];omega)
  |(rw[Bool.eq_iff_iff];simp[am,au, *];omega)
  |(rw[Bool.eq_iff_iff];simp[am,au, *];done)
def ij (r:Rec):Int:=if am r then 0 else 2
theorem cL {r:Rec} (h:am r=false):(2:Int)=ij r:=by unfold ij;rw[h];rfl
theorem dc {r:Rec} (h:am r=true):(0:Int)=ij r:=by unfold ij;rw[h];rfl
theorem aQ (s:ByteArray):s=ByteArray.empty↔s.size=0:=by
 constructor
 ·rintro rfl;rfl
 ·intro h
  have:s.data.toList=[]:=List.eq_nil_of_length_eq_zero h
  exact(aj.self s).eq (show aj ByteArray.empty s.data.toList by rw[this];rfl)
theorem GL (epoch time count target till:Int) (root name:ByteArray) (w:World) (hname:name.size≤1073741824) (hf:Fits epoch):
  Calls Tryz.prog 80 #[.agg #[.int .i64 1, .int .i64 epoch, .int .i64 time, .int .i64 count, .int .i64 target, .int .i64 till, .string root, .string name]] w
   fun e w'=>e= .returned (.int .i64 (ij ⟨1,epoch,time,count,target,till,root,name⟩))∧Below w.heap.size w w':=by
 have z1:=aG root
 have z2:=aG name
 obtain⟨E1,hE1⟩:∃E1:Int,wrap64 (epoch-1)=E1:=⟨_,rfl⟩
 have hE2:epoch=-9223372036854775808∨E1=epoch-1:=by
  by_cases h:epoch=-9223372036854775808
  ·exact .inl h
  ·rw[←hE1,IntWalk.wrap64_in _ (by have:=hf.1;have:=hf.2;omega)];exact .inr rfl
 have HE1:=Lib.hid hE1;clear hE1
 have HE2:=Lib.hid hE2;clear hE2
 obtain⟨B,hB⟩:∃B:Bool,((decide (0≤count)&&decide (count≤4096))&&decide (root.size=32))=B:=⟨_,rfl⟩
 obtain⟨nk,hn⟩:∃b:Bool,cJ name.data.toList=b:=⟨_,rfl⟩
 have HB:=Lib.hid hB;clear hB
 have HN:=Lib.hid hn;clear hn
 cases B
 all_goals
  go_enter Tryz.func80,Tryz.ntmps80
  go_wp2_with fail
  refine(II epoch time count target till root name _ hname E1 HE1.out).mono ?_
  rintro e w1 ⟨rfl,hb1⟩
  rw[HB.out]
  have hz:w.heap.size<w1.heap.size:=by have:=hb1.size;simp at this;omega
  have hz2:¬w.heap.size=w1.heap.size:=by omega
  have q1:w1.cell? ⟨w.heap.size,1,none⟩=some (.int .i64 epoch):=by rw[hb1.cell (by simp)];simp
  have q2:w1.cell? ⟨w.heap.size,2,none⟩=some (.int .i64 time):=by rw[hb1.cell (by simp)];simp
  have Hb:=Lib.hid hb1;clear hb1
  go_wp2_with (go_at_call 172;refine(bT _ _ _).mono ?_;rintro e w1 ⟨rfl,rfl⟩)
  all_goals go_ret
  all_goals refine⟨oj ?_, ?_⟩
  all_goals first
   |(have hb':=Hb.out;refine((Below.refl w.heap.size w).alloc (Nat.le_refl _) _).trans (hb'.mono (by simp))|>.alloc ?_ _;have:=hb'.size;simp at this ⊢;omega)
   |skip
  all_goals
   have hb:=HB.out
   have hn:=HN.out
   have he2:=HE2.out
   try simp only[aQ,Bool.not_eq_true',Bool.not_eq_false',Bool.and_eq_true,Bool.and_eq_false_iff,decide_eq_false_iff_not,decide_eq_true_eq]at*
   first
   |(refine cL ?_;clear hb hn he2 HB HN HE1 HE2;simp[am,au, *];done)
   |(refine cL ?_;cases nk<;>simp[am,au,hn]at hb ⊢<;>simp only[aQ]at*<;>omega)
   |(refine dc ?_;cases nk<;>simp[am,au,hn]at hb ⊢<;>simp only[aQ]at*<;>omega)
   |(refine cL ?_;cases nk<;>simp_all [am,au]<;>(try simp only[aQ]at*)<;>omega)
   |(refine dc ?_;cases nk<;>simp_all [am,au]<;>(try simp only[aQ]at*)<;>omega)
   |(refine cL ?_;cases nk<;>simp_all [am,au];done)
   |(refine dc ?_;cases nk<;>simp_all [am,au];done)
theorem GM (epoch time count target till:Int) (root name:ByteArray) (w:World) (hname:name.size≤1073741824) (hf:Fits epoch):
  Calls Tryz.prog 80 #[.agg #[.int .i64 2, .int .i64 epoch, .int .i64 time, .int .i64 count, .int .i64 target, .int .i64 till, .string root, .string name]] w
   fun e w'=>e= .returned (.int .i64 (ij ⟨2,epoch,time,count,target,till,root,name⟩))∧Below w.heap.size w w':=by
 have z1:=aG root
 have z2:=aG name
 obtain⟨E1,hE1⟩:∃E1:Int,wrap64 (epoch-1)=E1:=⟨_,rfl⟩
 have hE2:epoch=-9223372036854775808∨E1=epoch-1:=by
  by_cases h:epoch=-9223372036854775808
  ·exact .inl h
  ·rw[←hE1,IntWalk.wrap64_in _ (by have:=hf.1;have:=hf.2;omega)];exact .inr rfl
 have HE1:=Lib.hid hE1;clear hE1
 have HE2:=Lib.hid hE2;clear hE2
 obtain⟨B,hB⟩:∃B:Bool,((decide (0≤till)&&decide (till≤1099511627776))&&(decide (0≤target)&&decide (target≤E1)))=B:=⟨_,rfl⟩
 obtain⟨nk,hn⟩:∃b:Bool,cJ name.data.toList=b:=⟨_,rfl⟩
 have HB:=Lib.hid hB;clear hB
 have HN:=Lib.hid hn;clear hn
 cases B
 all_goals
  go_enter Tryz.func80,Tryz.ntmps80
  go_wp2_with fail
  refine(IJ epoch time count target till root name _ hname E1 HE1.out).mono ?_
  rintro e w1 ⟨rfl,hb1⟩
  rw[HB.out]
  have hz:w.heap.size<w1.heap.size:=by have:=hb1.size;simp at this;omega
  have hz2:¬w.heap.size=w1.heap.size:=by omega
  have q1:w1.cell? ⟨w.heap.size,1,none⟩=some (.int .i64 epoch):=by rw[hb1.cell (by simp)];simp
  have q2:w1.cell? ⟨w.heap.size,2,none⟩=some (.int .i64 time):=by rw[hb1.cell (by simp)];simp
  have Hb:=Lib.hid hb1;clear hb1
  go_wp2_with (go_at_call 172;refine(bT _ _ _).mono ?_;rintro e w1 ⟨rfl,rfl⟩)
  all_goals go_ret
  all_goals refine⟨oj ?_, ?_⟩
  all_goals first
   |(have hb':=Hb.out;refine((Below.refl w.heap.size w).alloc (Nat.le_refl _) _).trans (hb'.mono (by simp))|>.alloc ?_ _;have:=hb'.size;simp at this ⊢;omega)
   |skip
  all_goals
   have hb:=HB.out
   have hn:=HN.out
   have he2:=HE2.out
   try simp only[aQ,Bool.not_eq_true',Bool.not_eq_false',Bool.and_eq_true,Bool.and_eq_false_iff,decide_eq_false_iff_not,decide_eq_true_eq]at*
   first
   |(refine cL ?_;clear hb hn he2 HB HN HE1 HE2;simp[am,au, *];done)
   |(refine cL ?_;cases nk<;>simp[am,au,hn]at hb ⊢<;>simp only[aQ]at*<;>omega)
   |(refine dc ?_;cases nk<;>simp[am,au,hn]at hb ⊢<;>simp only[aQ]at*<;>omega)
   |(refine cL ?_;cases nk<;>simp_all [am,au]<;>(try simp only[aQ]at*)<;>omega)
   |(refine dc ?_;cases nk<;>simp_all [am,au]<;>(try simp only[aQ]at*)<;>omega)
   |(refine cL ?_;cases nk<;>simp_all [am,au];done)
   |(refine dc ?_;cases nk<;>simp_all [am,au];done)
theorem GN (epoch time count target till:Int) (root name:ByteArray) (w:World) (hname:name.size≤1073741824) (hf:Fits epoch):
  Calls Tryz.prog 80 #[.agg #[.int .i64 5, .int .i64 epoch, .int .i64 time, .int .i64 count, .int .i64 target, .int .i64 till, .string root, .string name]] w
   fun e w'=>e= .returned (.int .i64 (ij ⟨5,epoch,time,count,target,till,root,name⟩))∧Below w.heap.size w w':=by
 have z1:=aG root
 have z2:=aG name
 obtain⟨E1,hE1⟩:∃E1:Int,wrap64 (epoch-1)=E1:=⟨_,rfl⟩
 have hE2:epoch=-9223372036854775808∨E1=epoch-1:=by
  by_cases h:epoch=-9223372036854775808
  ·exact .inl h
  ·rw[←hE1,IntWalk.wrap64_in _ (by have:=hf.1;have:=hf.2;omega)];exact .inr rfl
 have HE1:=Lib.hid hE1;clear hE1
 have HE2:=Lib.hid hE2;clear hE2
 obtain⟨B,hB⟩:∃B:Bool,((decide (0≤till)&&decide (till≤1099511627776))&&(decide (0≤target)&&decide (target≤E1)))=B:=⟨_,rfl⟩
 obtain⟨nk,hn⟩:∃b:Bool,cJ name.data.toList=b:=⟨_,rfl⟩
 have HB:=Lib.hid hB;clear hB
 have HN:=Lib.hid hn;clear hn
 cases B
 all_goals
  go_enter Tryz.func80,Tryz.ntmps80
  go_wp2_with fail
  refine(IK epoch time count target till root name _ hname E1 HE1.out).mono ?_
  rintro e w1 ⟨rfl,hb1⟩
  rw[HB.out]
  have hz:w.heap.size<w1.heap.size:=by have:=hb1.size;simp at this;omega
  have hz2:¬w.heap.size=w1.heap.size:=by omega
  have q1:w1.cell? ⟨w.heap.size,1,none⟩=some (.int .i64 epoch):=by rw[hb1.cell (by simp)];simp
  have q2:w1.cell? ⟨w.heap.size,2,none⟩=some (.int .i64 time):=by rw[hb1.cell (by simp)];simp
  have Hb:=Lib.hid hb1;clear hb1
  go_wp2_with (go_at_call 172;refine(bT _ _ _).mono ?_;rintro e w1 ⟨rfl,rfl⟩)
  all_goals go_ret
  all_goals refine⟨oj ?_, ?_⟩
  all_goals first
   |(have hb':=Hb.out;refine((Below.refl w.heap.size w).alloc (Nat.le_refl _) _).trans (hb'.mono (by simp))|>.alloc ?_ _;have:=hb'.size;simp at this ⊢;omega)
   |skip
  all_goals
   have hb:=HB.out
   have hn:=HN.out
   have he2:=HE2.out
   try simp only[aQ,Bool.not_eq_true',Bool.not_eq_false',Bool.and_eq_true,Bool.and_eq_false_iff,decide_eq_false_iff_not,decide_eq_true_eq]at*
   first
   |(refine cL ?_;clear hb hn he2 HB HN HE1 HE2;simp[am,au, *];done)
   |(refine cL ?_;cases nk<;>simp[am,au,hn]at hb ⊢<;>simp only[aQ]at*<;>omega)
   |(refine dc ?_;cases nk<;>simp[am,au,hn]at hb ⊢<;>simp only[aQ]at*<;>omega)
   |(refine cL ?_;cases nk<;>simp_all [am,au]<;>(try simp only[aQ]at*)<;>omega)
   |(refine dc ?_;cases nk<;>simp_all [am,au]<;>(try simp only[aQ]at*)<;>omega)
   |(refine cL ?_;cases nk<;>simp_all [am,au];done)
   |(refine dc ?_;cases nk<;>simp_all [am,au];done)
theorem GO (epoch time count target till:Int) (root name:ByteArray) (w:World) (hname:name.size≤1073741824) (hf:Fits epoch):
  Calls Tryz.prog 80 #[.agg #[.int .i64 3, .int .i64 epoch, .int .i64 time, .int .i64 count, .int .i64 target, .int .i64 till, .string root, .string name]] w
   fun e w'=>e= .returned (.int .i64 (ij ⟨3,epoch,time,count,target,till,root,name⟩))∧Below w.heap.size w w':=by
 have z1:=aG root
 have z2:=aG name
 obtain⟨E1,hE1⟩:∃E1:Int,wrap64 (epoch-1)=E1:=⟨_,rfl⟩
 have hE2:epoch=-9223372036854775808∨E1=epoch-1:=by
  by_cases h:epoch=-9223372036854775808
  ·exact .inl h
  ·rw[←hE1,IntWalk.wrap64_in _ (by have:=hf.1;have:=hf.2;omega)];exact .inr rfl
 have HE1:=Lib.hid hE1;clear hE1
 have HE2:=Lib.hid hE2;clear hE2
 obtain⟨B,hB⟩:∃B:Bool,((decide (0≤target)&&decide (target≤E1))&&cJ name.data.toList)=B:=⟨_,rfl⟩
 obtain⟨nk,hn⟩:∃b:Bool,cJ name.data.toList=b:=⟨_,rfl⟩
 have HB:=Lib.hid hB;clear hB
 have HN:=Lib.hid hn;clear hn
 cases B
 all_goals
  go_enter Tryz.func80,Tryz.ntmps80
  go_wp2_with fail
  refine(IL epoch time count target till root name _ hname E1 HE1.out).mono ?_
  rintro e w1 ⟨rfl,hb1⟩
  rw[HB.out]
  have hz:w.heap.size<w1.heap.size:=by have:=hb1.size;simp at this;omega
  have hz2:¬w.heap.size=w1.heap.size:=by omega
  have q1:w1.cell? ⟨w.heap.size,1,none⟩=some (.int .i64 epoch):=by rw[hb1.cell (by simp)];simp
  have q2:w1.cell? ⟨w.heap.size,2,none⟩=some (.int .i64 time):=by rw[hb1.cell (by simp)];simp
  have Hb:=Lib.hid hb1;clear hb1
  go_wp2_with (go_at_call 172;refine(bT _ _ _).mono ?_;rintro e w1 ⟨rfl,rfl⟩)
  all_goals go_ret
  all_goals refine⟨oj ?_, ?_⟩
  all_goals first
   |(have hb':=Hb.out;refine((Below.refl w.heap.size w).alloc (Nat.le_refl _) _).trans (hb'.mono (by simp))|>.alloc ?_ _;have:=hb'.size;simp at this ⊢;omega)
   |skip
  all_goals
   have hb:=HB.out
   have hn:=HN.out
   have he2:=HE2.out
   try simp only[aQ,Bool.not_eq_true',Bool.not_eq_false',Bool.and_eq_true,Bool.and_eq_false_iff,decide_eq_false_iff_not,decide_eq_true_eq]at*
   first
   |(refine cL ?_;clear hb hn he2 HB HN HE1 HE2;simp[am,au, *];done)
   |(refine cL ?_;cases nk<;>simp[am,au,hn]at hb ⊢<;>simp only[aQ]at*<;>omega)
   |(refine dc ?_;cases nk<;>simp[am,au,hn]at hb ⊢<;>simp only[aQ]at*<;>omega)
   |(refine cL ?_;cases nk<;>simp_all [am,au]<;>(try simp only[aQ]at*)<;>omega)
   |(refine dc ?_;cases nk<;>simp_all [am,au]<;>(try simp only[aQ]at*)<;>omega)
   |(refine cL ?_;cases nk<;>simp_all [am,au];done)
   |(refine dc ?_;cases nk<;>simp_all [am,au];done)
theorem GP (epoch time count target till:Int) (root name:ByteArray) (w:World) (hname:name.size≤1073741824) (hf:Fits epoch):
  Calls Tryz.prog 80 #[.agg #[.int .i64 4, .int .i64 epoch, .int .i64 time, .int .i64 count, .int .i64 target, .int .i64 till, .string root, .string name]] w
   fun e w'=>e= .returned (.int .i64 (ij ⟨4,epoch,time,count,target,till,root,name⟩))∧Below w.heap.size w w':=by
 have z1:=aG root
 have z2:=aG name
 obtain⟨E1,hE1⟩:∃E1:Int,wrap64 (epoch-1)=E1:=⟨_,rfl⟩
 have hE2:epoch=-9223372036854775808∨E1=epoch-1:=by
  by_cases h:epoch=-9223372036854775808
  ·exact .inl h
  ·rw[←hE1,IntWalk.wrap64_in _ (by have:=hf.1;have:=hf.2;omega)];exact .inr rfl
 have HE1:=Lib.hid hE1;clear hE1
 have HE2:=Lib.hid hE2;clear hE2
 obtain⟨B,hB⟩:∃B:Bool,(cJ name.data.toList)=B:=⟨_,rfl⟩
 obtain⟨nk,hn⟩:∃b:Bool,cJ name.data.toList=b:=⟨_,rfl⟩
 have HB:=Lib.hid hB;clear hB
 have HN:=Lib.hid hn;clear hn
 cases B
 all_goals
  go_enter Tryz.func80,Tryz.ntmps80
  go_wp2_with fail
  refine(IM epoch time count target till root name _ hname E1 HE1.out).mono ?_
  rintro e w1 ⟨rfl,hb1⟩
  rw[HB.out]
  have hz:w.heap.size<w1.heap.size:=by have:=hb1.size;simp at this;omega
  have hz2:¬w.heap.size=w1.heap.size:=by omega
  have q1:w1.cell? ⟨w.heap.size,1,none⟩=some (.int .i64 epoch):=by rw[hb1.cell (by simp)];simp
  have q2:w1.cell? ⟨w.heap.size,2,none⟩=some (.int .i64 time):=by rw[hb1.cell (by simp)];simp
  have Hb:=Lib.hid hb1;clear hb1
  go_wp2_with (go_at_call 172;refine(bT _ _ _).mono ?_;rintro e w1 ⟨rfl,rfl⟩)
  all_goals go_ret
  all_goals refine⟨oj ?_, ?_⟩
  all_goals first
   |(have hb':=Hb.out;refine((Below.refl w.heap.size w).alloc (Nat.le_refl _) _).trans (hb'.mono (by simp))|>.alloc ?_ _;have:=hb'.size;simp at this ⊢;omega)
   |skip
  all_goals
   have hb:=HB.out
   have hn:=HN.out
   have he2:=HE2.out
   try simp only[aQ,Bool.not_eq_true',Bool.not_eq_false',Bool.and_eq_true,Bool.and_eq_false_iff,decide_eq_false_iff_not,decide_eq_true_eq]at*
   first
   |(refine cL ?_;clear hb hn he2 HB HN HE1 HE2;simp[am,au, *];done)
   |(refine cL ?_;cases nk<;>simp[am,au,hn]at hb ⊢<;>simp only[aQ]at*<;>omega)
   |(refine dc ?_;cases nk<;>simp[am,au,hn]at hb ⊢<;>simp only[aQ]at*<;>omega)
   |(refine cL ?_;cases nk<;>simp_all [am,au]<;>(try simp only[aQ]at*)<;>omega)
   |(refine dc ?_;cases nk<;>simp_all [am,au]<;>(try simp only[aQ]at*)<;>omega)
   |(refine cL ?_;cases nk<;>simp_all [am,au];done)
   |(refine dc ?_;cases nk<;>simp_all [am,au];done)
theorem GQ (kind epoch time count target till:Int) (root name:ByteArray) (w:World) (hname:name.size≤1073741824) (hf:Fits epoch) (k1:¬kind=1) (k2:¬kind=2) (k5:¬kind=5) (k3:¬kind=3) (k4:¬kind=4):
  Calls Tryz.prog 80 #[.agg #[.int .i64 kind, .int .i64 epoch, .int .i64 time, .int .i64 count, .int .i64 target, .int .i64 till, .string root, .string name]] w
   fun e w'=>e= .returned (.int .i64 (ij ⟨kind,epoch,time,count,target,till,root,name⟩))∧Below w.heap.size w w':=by
 have z1:=aG root
 have z2:=aG name
 obtain⟨E1,hE1⟩:∃E1:Int,wrap64 (epoch-1)=E1:=⟨_,rfl⟩
 have hE2:epoch=-9223372036854775808∨E1=epoch-1:=by
  by_cases h:epoch=-9223372036854775808
  ·exact .inl h
  ·rw[←hE1,IntWalk.wrap64_in _ (by have:=hf.1;have:=hf.2;omega)];exact .inr rfl
 have HE1:=Lib.hid hE1;clear hE1
 have HE2:=Lib.hid hE2;clear hE2
 obtain⟨B,hB⟩:∃B:Bool,(false)=B:=⟨_,rfl⟩
 obtain⟨nk,hn⟩:∃b:Bool,cJ name.data.toList=b:=⟨_,rfl⟩
 have HB:=Lib.hid hB;clear hB
 have HN:=Lib.hid hn;clear hn
 cases B
 all_goals
  go_enter Tryz.func80,Tryz.ntmps80
  go_wp2_with fail
  refine(IP kind epoch time count target till root name _ hname E1 HE1.out k1 k2 k5 k3 k4).mono ?_
  rintro e w1 ⟨rfl,hb1⟩
  skip
  have hz:w.heap.size<w1.heap.size:=by have:=hb1.size;simp at this;omega
  have hz2:¬w.heap.size=w1.heap.size:=by omega
  have q1:w1.cell? ⟨w.heap.size,1,none⟩=some (.int .i64 epoch):=by rw[hb1.cell (by simp)];simp
  have q2:w1.cell? ⟨w.heap.size,2,none⟩=some (.int .i64 time):=by rw[hb1.cell (by simp)];simp
  have Hb:=Lib.hid hb1;clear hb1
  go_wp2_with (go_at_call 172;refine(bT _ _ _).mono ?_;rintro e w1 ⟨rfl,rfl⟩)
  all_goals go_ret
  all_goals refine⟨oj ?_, ?_⟩
  all_goals first
   |(have hb':=Hb.out;refine((Below.refl w.heap.size w).alloc (Nat.le_refl _) _).trans (hb'.mono (by simp))|>.alloc ?_ _;have:=hb'.size;simp at this ⊢;omega)
   |skip
  all_goals
   have hb:=HB.out
   have hn:=HN.out
   have he2:=HE2.out
   try simp only[aQ,Bool.not_eq_true',Bool.not_eq_false',Bool.and_eq_true,Bool.and_eq_false_iff,decide_eq_false_iff_not,decide_eq_true_eq]at*
   first
   |(refine cL ?_;clear hb hn he2 HB HN HE1 HE2;simp[am,au, *];done)
   |(refine cL ?_;cases nk<;>simp[am,au,hn]at hb ⊢<;>simp only[aQ]at*<;>omega)
   |(refine dc ?_;cases nk<;>simp[am,au,hn]at hb ⊢<;>simp only[aQ]at*<;>omega)
   |(refine cL ?_;cases nk<;>simp_all [am,au]<;>(try simp only[aQ]at*)<;>omega)
   |(refine dc ?_;cases nk<;>simp_all [am,au]<;>(try simp only[aQ]at*)<;>omega)
   |(refine cL ?_;cases nk<;>simp_all [am,au];done)
   |(refine dc ?_;cases nk<;>simp_all [am,au];done)
theorem IntsIn.shape {w:World} {v:Value} {xs:List Int} (h:IntsIn w v xs):∃(p:Option Addr) (c:Nat),v= .slice p xs.length c:=by
 rcases h.row with⟨rfl,p,c,rfl⟩|⟨g,o,c,rfl,_⟩
 ·exact⟨p,c,rfl⟩
 ·exact⟨_,c,rfl⟩
theorem kD.shape {w:World} {v:Value} {xs:List ByteArray} (h:kD w v xs):∃(p:Option Addr) (c:Nat),v= .slice p xs.length c:=by
 rcases h.row with⟨rfl,p,c,rfl⟩|⟨g,o,c,rfl,_⟩
 ·exact⟨p,c,rfl⟩
 ·exact⟨_,c,rfl⟩
def fh (xs:List ByteArray):Nat:=(xs.map fun x=>min x.size 100000).sum
theorem oZ (xs:List ByteArray) (k:Nat) (x:ByteArray) (h:xs[k]?=some x):fh (xs.take (k+1))=fh (xs.take k)+min x.size 100000:=by
 obtain⟨hk,rfl⟩:=List.getElem?_eq_some_iff.1 h
 unfold fh
 rw[List.take_succ_eq_append_getElem hk,List.map_append,List.sum_append]
 simp only[List.map_cons,List.map_nil,List.sum_cons,List.sum_nil,Nat.add_zero]
theorem r7 (xs:List ByteArray):fh xs≤100000*xs.length:=by
 induction xs with
 |nil=>simp[fh]
 |cons a r ih=>simp only[fh,List.map_cons,List.sum_cons,List.length_cons]at*;omega
def fH (ws xs:List Int) (k:Nat):List UInt8:=((ws.zip xs).take k).flatMap fun p=>beBytes p.1.toNat p.2.toNat
def fR (ws xs:List Int):List UInt8:=(ws.zip xs).flatMap fun p=>beBytes p.1.toNat p.2.toNat
theorem lA (ws xs:List Int) (k:Nat) (a x:Int) (ha:ws[k]?=some a) (hx:xs[k]?=some x):fH ws xs (k+1)=fH ws xs k++beBytes a.toNat x.toNat:=by
 have hz:(ws.zip xs)[k]?=some (a,x):=by rw[List.getElem?_zip_eq_some];exact⟨ha,hx⟩
 obtain⟨hk,he⟩:=List.getElem?_eq_some_iff.1 hz
 unfold fH
 rw[List.take_succ_eq_append_getElem hk,List.flatMap_append,he]
 simp
theorem qE (ws xs:List Int) (h:ws.length=xs.length):fH ws xs xs.length=fR ws xs:=by
 unfold fH fR
 rw[List.take_of_length_le (by rw[List.length_zip];omega)]
structure lY (ws xs:List Int):Prop where
 len:ws.length=xs.length
 each:∀(i:Nat) (a x:Int),ws[i]?=some a→xs[i]?=some x→1≤a∧a≤8∧0≤x∧x<9223372036854775808∧x.toNat<256^a.toNat
theorem sd {ws xs:List Int} (h:lY ws xs) (k:Nat):(fH ws xs k).length≤8*k:=by
 induction k with
 |zero=>simp[fH]
 |succ k ih=>
  by_cases hk:k<xs.length
  ·obtain⟨x,hx⟩:∃x,xs[k]?=some x:=⟨_,List.getElem?_eq_getElem hk⟩
   obtain⟨a,ha⟩:∃x,ws[k]?=some x:=⟨_,List.getElem?_eq_getElem (by rw[h.len];exact hk)⟩
   rw[lA _ _ _ _ _ ha hx,List.length_append,beBytes_length]
   have:=h.each k a x ha hx
   omega
  ·have:fH ws xs (k+1)=fH ws xs k:=by
    unfold fH
    rw[List.take_of_length_le (by rw[List.length_zip];omega),List.take_of_length_le (by rw[List.length_zip];omega)]
   rw[this]
   omega
theorem bc.at {w:World} {v:Value} {xs:List Int} (h:bc w v xs) (hne:0<xs.length):∃g o c,v= .slice (some ⟨g,o,none⟩) xs.length c∧g<w.heap.size∧∀(j:Nat) (x:Int),xs[j]?=some x→w.cell? ⟨g,o+j,none⟩=some (.int .i64 x):=by
 rcases h with⟨rfl,_⟩|h
 ·simp at hne
 ·exact h
theorem iV (v u:Value) (ws xs:List Int) (w:World) (hv:bc w v ws) (hu:bc w u xs) (hne:0<xs.length) (hx:xs.length≤16) (hok:lY ws xs):
  Calls Tryz.prog 240 #[v,u] w fun e w'=>∃r,e= .returned (.tuple #[.string r, .int .i64 0])∧aj r (fR ws xs)∧Below w.heap.size w w':=by
 obtain⟨g,o,c,rfl,hg,hc⟩:=hv.at (by rw[hok.len];exact hne)
 obtain⟨g',o',c',rfl,hg',hc'⟩:=hu.at hne
 obtain⟨n,Hn⟩:∃n,Hid (n=xs.length):=⟨_,rfl⟩
 rw[hok.len,←Hn.out]
 rw[←Hn.out]at hx hne
 have HO:=Lib.hid hok;clear hok
 have HC:=Lib.hid hc;clear hc
 have HC':=Lib.hid hc';clear hc'
 clear hv hu
 go_enter Tryz.func240,Tryz.ntmps240
 go_wp2_with ((with_reducible refine ai 207 _ lz (some 6) ?hgd ?ho ?hd ?_);(case hgd|ho|hd=>rfl);(intro b w1 l1 B1 e1 z1))
 have hB1:=fG.new B1
 have hbel:=e1.mono l1
 clear B1 e1 z1
 go_loopw [18] (fun i wr=>∃k:Nat,k≤n∧i= .int .i64 k∧fG wr b (fH ws xs k)∧Below w.heap.size w wr) (fun i _=>n-(intOf i).toNat)
 case atStart=>exact⟨0,by omega,rfl,hB1,hbel⟩
 case round=>
  clear hB1 hbel
  obtain⟨k,hk,rfl,hB,hbel⟩:=hrel
  have HB:=Lib.hid hB;clear hB
  by_cases hlt:k<n
  ·have hlt':(k:Int)<n:=by omega
   obtain⟨x,hxk⟩:∃x,xs[k]?=some x:=⟨_,List.getElem?_eq_getElem (by rw[←Hn.out];exact hlt)⟩
   obtain⟨a,hak⟩:∃x,ws[k]?=some x:=⟨_,List.getElem?_eq_getElem (by rw[HO.out.len,←Hn.out];exact hlt)⟩
   have hcx:wr.cell? ⟨g',o'+k,none⟩=some (.int .i64 x):=by rw[hbel.cell (by show g'<w.heap.size;exact hg')];exact HC'.out k x hxk
   have hca:wr.cell? ⟨g,o+k,none⟩=some (.int .i64 a):=by rw[hbel.cell (by show g<w.heap.size;exact hg)];exact HC.out k a hak
   obtain⟨h1,h2,h3,h4,h5⟩:=HO.out.each k a x hak hxk
   obtain⟨m,rfl⟩:∃m:Nat,x=(m:Int):=⟨x.toNat,by omega⟩
   obtain⟨a',rfl⟩:∃m:Nat,a=(m:Int):=⟨a.toNat,by omega⟩
   have HX:=Lib.hid hxk;clear hxk
   have HA:=Lib.hid hak;clear hak
   have h0:(0:Int)≤(k:Int):=by omega
   go_wp2_with fail
   refine(mH m a' _ (by omega) (by omega) (by omega) (fun _=>by simpa using h5)).mono ?_
   rintro e w3 ⟨r,rfl,tr,hb3⟩
   have hB3:=HB.out.below hb3
   have HB3:=Lib.hid hB3;clear hB3
   have sr:r.size≤8:=by rw[tr.size,beBytes_length];omega
   go_wp2_with fail
   refine(fQ b _ r _ HB3.out (by have:=sd HO.out k;omega)).mono ?_
   rintro e w4 ⟨rfl,hB4,hb4⟩
   have HB4:=Lib.hid hB4;clear hB4
   go_wp2_with fail
   go_roundw
   case rel=>
    refine⟨k+1,by omega,by go_num, ?_,(hbel.trans (hb3.mono hbel.size)).trans (hb4.mono l1)⟩
    have:=HB4.out
    rw[show r.data.toList= _ from tr]at this
    rw[lA _ _ _ _ _ HA.out HX.out,Int.toNat_natCast,Int.toNat_natCast]
    exact this
   case measure=>simp[intOf];omega
  ·obtain rfl:k=n:=by omega
   go_wp2_with fail
   refine(mn b _ _ HB.out).mono ?_
   rintro e w5 ⟨q,rfl,tq,hb5⟩
   go_wp2_with fail
   go_ret2
   exact⟨q,rfl,tq.cast (by rw[Hn.out];exact qE _ _ HO.out.len),hbel.trans (hb5.mono l1)⟩
theorem Ax (v u:Value) (ws xs:List Int) (w:World) (hv:bc w v ws) (hu:bc w u xs) (hne:0<xs.length) (hx:xs.length≤16) (hok:lY ws xs):
  Calls Tryz.prog 395 #[v,u] w fun e w'=>∃r,e= .returned (.tuple #[.string r, .int .i64 0])∧aj r (fR ws xs)∧Below w.heap.size w w':=by
 obtain⟨g,o,c,rfl,hg,hc⟩:=hv.at (by rw[hok.len];exact hne)
 obtain⟨g',o',c',rfl,hg',hc'⟩:=hu.at hne
 obtain⟨n,Hn⟩:∃n,Hid (n=xs.length):=⟨_,rfl⟩
 rw[hok.len,←Hn.out]
 rw[←Hn.out]at hx hne
 have HO:=Lib.hid hok;clear hok
 have HC:=Lib.hid hc;clear hc
 have HC':=Lib.hid hc';clear hc'
 clear hv hu
 go_enter Tryz.func395,Tryz.ntmps395
 go_wp2_with fail
 go_loopw [6,7] (fun v6 i wr=>∃(k:Nat) (q:ByteArray),k≤n∧i= .int .i64 k∧v6= .string q∧aj q (fH ws xs k)∧Below w.heap.size w wr) (fun _ i _=>n-(intOf i).toNat)
 case atStart=>exact⟨0,⟨#[]⟩,by omega,rfl,rfl,aj.mk [],Below.refl _ _⟩
 case round=>
  obtain⟨k,q,hk,rfl,rfl,tq,hbel⟩:=hrel
  have sq:q.size≤1024:=by rw[tq.size];have:=sd HO.out k;omega
  by_cases hlt:k<n
  ·have hlt':(k:Int)<n:=by omega
   obtain⟨x,hxk⟩:∃x,xs[k]?=some x:=⟨_,List.getElem?_eq_getElem (by rw[←Hn.out];exact hlt)⟩
   obtain⟨a,hak⟩:∃x,ws[k]?=some x:=⟨_,List.getElem?_eq_getElem (by rw[HO.out.len,←Hn.out];exact hlt)⟩
   have hcx:wr.cell? ⟨g',o'+k,none⟩=some (.int .i64 x):=by rw[hbel.cell (by show g'<w.heap.size;exact hg')];exact HC'.out k x hxk
   have hca:wr.cell? ⟨g,o+k,none⟩=some (.int .i64 a):=by rw[hbel.cell (by show g<w.heap.size;exact hg)];exact HC.out k a hak
   obtain⟨h1,h2,h3,h4,h5⟩:=HO.out.each k a x hak hxk
   obtain⟨m,rfl⟩:∃m:Nat,x=(m:Int):=⟨x.toNat,by omega⟩
   obtain⟨a',rfl⟩:∃m:Nat,a=(m:Int):=⟨a.toNat,by omega⟩
   have HX:=Lib.hid hxk;clear hxk
   have HA:=Lib.hid hak;clear hak
   have h0:(0:Int)≤(k:Int):=by omega
   go_wp2_with fail
   have hgl:g<wr.heap.size:=by have:=hbel.size;omega
   have hgl':g'<wr.heap.size:=by have:=hbel.size;omega
   go_region_held3 (fun w'=>w'.cell? ⟨g',o'+k,none⟩=some (.int .i64 m)∧w'.cell? ⟨g,o+k,none⟩=some (.int .i64 a')) (go_keep) ((go_at_call 303;refine(ge m a' _ (by omega)).mono ?_;rintro e w3 ⟨he,hb3⟩;obtain⟨r,rfl,tr⟩:=he.yes ⟨by omega,by omega,by omega,by simpa using h5⟩;clear he;have p1:w3.cell? ⟨g',o'+k,none⟩=some (.int .i64 m):=(hb3.cell (p:=⟨g',o'+k,none⟩) hgl').trans hcx;have p2:w3.cell? ⟨g,o+k,none⟩=some (.int .i64 a'):=(hb3.cell (p:=⟨g,o+k,none⟩) hgl).trans hca))
   have sr:r.size≤8:=by rw[tr.size,beBytes_length];omega
   go_wp2_with fail
   go_roundw
   case rel=>
    refine⟨k+1,q++r,by omega,by go_num,rfl, ?_,hbel.trans ((Below.refl _ _).drew.trans hb3|>.mono hbel.size)⟩
    rw[lA _ _ _ _ _ HA.out HX.out,Int.toNat_natCast,Int.toNat_natCast]
    exact tq.append tr
   case measure=>simp[intOf];omega
  ·obtain rfl:k=n:=by omega
   go_wp2_with fail
   go_ret2
   exact⟨q,rfl,tq.cast (by rw[Hn.out];exact qE _ _ HO.out.len),hbel⟩
end Go.Proofs.YtgimkmclgjfddaaGreat
