/- VolMounts: the law's statement from its walk. -/
import Derived.Test.YtadooplpfhdhcaaGreatQ1
import Derived.Test.YtadooplpfhdhcaaGreatQ40
import Derived.Test.YtadooplpfhdhcaaGreatQ5
import Derived.OpenShut
import Derived.ShutString
import Derived.ChangeOld
set_option linter.unusedSimpArgs false
set_option linter.unusedVariables false
set_option maxRecDepth 100000
set_option maxHeartbeats 4000000
namespace Go.Proofs.YtadooplpfhdhcaaGreat
open Go Go.RowKit
open Go.Proofs.Tryz
open Go.ChangeShapes Go.WideShapes Go.ChangeAt
open Go.ChangeMaps (open_string shut_string)
theorem yx:ownKnob prog.godebug=none:=by kernel_rfl
theorem sS (x:Os) (c:x.Started) (H:Type) (enc:TypeId×Value→H):
  ReturnsInHanded {} checked x 3 .any (Rows.volMountsSpec.pre6 enc prog f3 Rows.volMountsRow.domain false) (Rows.volMountsSpec.post enc prog f3 false true false false):=by
 refine returnsInHanded_of_change (C:=checked) yx c (by kernel_rfl) func3
  (ChangeSpec.witness6 (enc:=enc) (C:=checked) false ⟨#[],#[.agg #[.int .i64 0, .int .i64 0, .int .i64 0], .string ByteArray.empty, .slice none 0 0],[]⟩ 8 (by kernel_rfl) (by kernel_rfl) (by kernel_rfl) (by kernel_rfl)) ?_
 intro W d args E gs g b u w _;have a:∀(j:Nat) t v,f3.params[j]?=some t→args[j]?=some v→Value.okWide prog W .any d t v:=b;have l:=u;obtain⟨p,q,f,K,rfl,L,M⟩:=u;have s:DataW.TrodAll enc prog W 0 (fun _=>true) true f3.params.toList args.toList E p:=f;rw[params3]at s a;obtain⟨y,S,Z,F,p0,q0,m,rfl,rfl,i,P⟩:=trodAll_cons s;obtain⟨z,T,d1,G,p1,q1,rfl,rfl,rfl,J,Q⟩:=trodAll_cons P;obtain⟨r,U,d2,I,p2,q2,rfl,rfl,rfl,k,R⟩:=trodAll_cons Q;obtain⟨rfl,rfl,rfl⟩:=trodAll_nil R;obtain rfl:args=#[y,z,r]:=by cases args;simp_all
 obtain⟨rfl,rfl⟩:=trodVars_none K;have N:=i;have n:=Am i;obtain⟨A,rfl,w0⟩:=K9 (okWide_struct underlying23 (a 0 23 y rfl rfl)) i;obtain⟨B,rfl,rfl,rfl,V⟩:=open_string underlying9 (a 1 9 z rfl rfl) J;have O:=k;have o:=Am k;obtain⟨D,X⟩:=ED (okWide_slice underlying24 (a 2 24 r rfl rfl)) k;clear f b
 refine(yt A B r D W w0 X).mono fun e Y ⟨he,bel⟩=> ?_
 subst he;exact⟨_,rfl,_,_,_,[],_,[],l,trodAll_mk1 (shut_bool underlying4 _),(trodAll_cons_mk (Below.trod pE (by kernel_rfl) (of_decide_eq_true (by kernel_rfl)) N bel n) (trodAll_cons_mk (shut_string underlying9 V) (trodAll_cons_mk (Below.trod pE (by kernel_rfl) (of_decide_eq_true (by kernel_rfl)) O bel o) trodAll_mk0))),rfl,bel.frame _,fun h=>by cases h⟩
theorem AA:(Tryz.pinned).checked.prog.funcNamed Rows.volMountsRow.func=some 3:=by kernel_rfl
theorem AB:(Rows.volMountsRow.inPlace==prog.inPlace 3)=true:=by kernel_rfl
theorem AC:(Rows.volMountsRow.unfollowed==prog.unfollowed 3)=true:=by kernel_rfl
theorem AD:(Rows.volMountsRow.recurses==prog.recurses 3)=true:=by kernel_rfl
theorem AE:(Rows.volMountsRow.named==prog.varsNamed 3)=true:=by kernel_rfl
theorem AG:joinedFacts prog 3 f3 Rows.volMountsSpec Rows.volMountsRow=true:=by
 unfold joinedFacts;rw[xt,AK,E0,AB,AC,AD,AE]
 kernel_rfl
theorem AH:Func.isInstance (Tryz.pinned).checked.prog f3 Rows.volMountsRow.origin Rows.volMountsRow.targs:=of_decide_eq_true (by kernel_rfl)
theorem AI:Func.isWrapper (Tryz.pinned).checked.prog f3 Rows.volMountsRow.wrapper Rows.volMountsRow.mainSum:=by
 unfold Func.isWrapper;rw[if_neg (of_decide_eq_false (by kernel_rfl))];exact⟨rfl,rfl⟩
theorem vN:Rows.volMountsRow.holds Tryz.pinned (OpenSpec.ofChange Rows.volMountsSpec):=
 OpenClaim.holds_of_wide 3 f3 rfl rfl rfl rfl rfl rfl rfl ⟨rfl,rfl,rfl,rfl,rfl⟩ rfl rfl rfl rfl rfl AA func3 AG AH AI
  (fun b a H enc _=>sS b a H enc)
theorem volMounts_proved:Rows.VolMountsSaid:=vN
end Go.Proofs.YtadooplpfhdhcaaGreat
