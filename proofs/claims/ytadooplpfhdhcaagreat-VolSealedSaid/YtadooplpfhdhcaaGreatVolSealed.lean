/- VolSealed: the law's statement from its walk. -/
import Derived.Test.YtadooplpfhdhcaaGreatQ1
import Derived.Test.YtadooplpfhdhcaaGreatQ40
import Derived.Test.YtadooplpfhdhcaaGreatQ5
import Derived.Test.YtadooplpfhdhcaaGreatQ39
import Derived.OpenShut
import Derived.ShutString
import Derived.ChangeOld
set_option linter.unusedSimpArgs false
set_option linter.unusedVariables false
set_option maxRecDepth 100000
set_option maxHeartbeats 4000000
namespace Go.Proofs.YtadooplpfhdhcaaGreat
open Go Go.RowKit
open Go.Proofs.Tryz
open Go.ChangeShapes Go.WideShapes Go.ChangeAt
open Go.ChangeMaps (open_string shut_string)
theorem zl:ownKnob prog.godebug=none:=by kernel_rfl
theorem tV (x:Os) (c:x.Started) (H:Type) (enc:TypeId×Value→H):
  ReturnsInHanded {} checked x 4 .any (Rows.volSealedSpec.pre6 enc prog f4 Rows.volSealedRow.domain false) (Rows.volSealedSpec.post enc prog f4 false true false false):=by
 refine returnsInHanded_of_change (C:=checked) zl c (by kernel_rfl) func4
  (ChangeSpec.witness6 (enc:=enc) (C:=checked) false ⟨#[],#[.agg #[.int .i64 0, .int .i64 0, .int .i64 0], .string ByteArray.empty, .slice none 0 0],[]⟩ 8 (by kernel_rfl) (by kernel_rfl) (by kernel_rfl) (by kernel_rfl)) ?_
 intro W d args E gs g b u w _;have a:∀(j:Nat) t v,f4.params[j]?=some t→args[j]?=some v→Value.okWide prog W .any d t v:=b;have l:=u;obtain⟨p,q,f,K,rfl,L,M⟩:=u;have s:DataW.TrodAll enc prog W 0 (fun _=>true) true f4.params.toList args.toList E p:=f;rw[params4]at s a;obtain⟨y,R,Y,F,p0,q0,m,rfl,rfl,i,O⟩:=trodAll_cons s;obtain⟨z,S,Z,G,p1,q1,rfl,rfl,rfl,J,P⟩:=trodAll_cons O;obtain⟨r,T,d2,I,p2,q2,rfl,rfl,rfl,k,Q⟩:=trodAll_cons P;obtain⟨rfl,rfl,rfl⟩:=trodAll_nil Q;obtain rfl:args=#[y,z,r]:=by cases args;simp_all
 obtain⟨rfl,rfl⟩:=trodVars_none K;have N:=i;have n:=Bv i;obtain⟨A,rfl,w0⟩:=L6 (okWide_struct underlying23 (a 0 23 y rfl rfl)) i;obtain⟨B,rfl,rfl,rfl,U⟩:=open_string underlying9 (a 1 9 z rfl rfl) J;have k2:=k;have o:=Bv k;obtain⟨D,V⟩:=FA (okWide_slice underlying24 (a 2 24 r rfl rfl)) k;clear f b
 refine(zi A B r D W w0 V).mono fun e X ⟨he,bel⟩=> ?_
 subst he;exact⟨_,rfl,_,_,_,[],_,[],l,trodAll_mk1 (shut_bool underlying4 _),(trodAll_cons_mk (Below.trod qp (by kernel_rfl) (of_decide_eq_true (by kernel_rfl)) N bel n) (trodAll_cons_mk (shut_string underlying9 U) (trodAll_cons_mk (Below.trod qp (by kernel_rfl) (of_decide_eq_true (by kernel_rfl)) k2 bel o) trodAll_mk0))),rfl,bel.frame _,fun h=>by cases h⟩
theorem BN:(Tryz.pinned).checked.prog.funcNamed Rows.volSealedRow.func=some 4:=by kernel_rfl
theorem BO:(Rows.volSealedRow.inPlace==prog.inPlace 4)=true:=by kernel_rfl
theorem BP:(Rows.volSealedRow.unfollowed==prog.unfollowed 4)=true:=by kernel_rfl
theorem BQ:(Rows.volSealedRow.recurses==prog.recurses 4)=true:=by kernel_rfl
theorem BR:(Rows.volSealedRow.named==prog.varsNamed 4)=true:=by kernel_rfl
theorem BS:joinedFacts prog 4 f4 Rows.volSealedSpec Rows.volSealedRow=true:=by
 unfold joinedFacts;rw[yu,BW,FX,BO,BP,BQ,BR]
 kernel_rfl
theorem BU:Func.isInstance (Tryz.pinned).checked.prog f4 Rows.volSealedRow.origin Rows.volSealedRow.targs:=of_decide_eq_true (by kernel_rfl)
theorem BV:Func.isWrapper (Tryz.pinned).checked.prog f4 Rows.volSealedRow.wrapper Rows.volSealedRow.mainSum:=by
 unfold Func.isWrapper;rw[if_neg (of_decide_eq_false (by kernel_rfl))];exact⟨rfl,rfl⟩
theorem wZ:Rows.volSealedRow.holds Tryz.pinned (OpenSpec.ofChange Rows.volSealedSpec):=
 OpenClaim.holds_of_wide 4 f4 rfl rfl rfl rfl rfl rfl rfl ⟨rfl,rfl,rfl,rfl,rfl⟩ rfl rfl rfl rfl rfl BN func4 BS BU BV
  (fun b a H enc _=>tV b a H enc)
theorem volSealed_proved:Rows.VolSealedSaid:=wZ
end Go.Proofs.YtadooplpfhdhcaaGreat
