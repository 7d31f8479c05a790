/- SessionNil: the law's statement from its walk. -/
import Derived.Test.YtngiibgdgenidaaGreatQ1
import Derived.Test.YtngiibgdgenidaaGreatQ35
import Derived.Test.YtngiibgdgenidaaGreatQ5
import Derived.Test.YtngiibgdgenidaaGreatQ33
import Derived.OpenShut
import Derived.ShutString
import Derived.ChangeOld
set_option linter.unusedSimpArgs false
set_option linter.unusedVariables false
set_option maxRecDepth 100000
set_option maxHeartbeats 4000000
namespace Go.Proofs.YtngiibgdgenidaaGreat
open Go Go.RowKit
open Go.ChangeShapes Go.WideShapes Go.ChangeAt
open Go.ChangeMaps (open_string shut_string)
theorem rN:ownKnob Tryz.prog.godebug=none:=by kernel_rfl
theorem ou (os:Os) (started:os.Started) (H:Type) (enc:TypeId×Value→H):
  ReturnsInHanded {} Tryz.checked os 3 .any (Rows.sessionNilSpec.pre6 enc Tryz.prog Tryz.f3 Rows.sessionNilRow.domain false) (Rows.sessionNilSpec.post enc Tryz.prog Tryz.f3 false true false false):=by
 refine returnsInHanded_of_change (C:=Tryz.checked) rN started (by kernel_rfl) Tryz.func3
  (ChangeSpec.witness6 (enc:=enc) (C:=Tryz.checked) false ⟨#[],#[.agg #[.int .i64 0, .int .i64 0, .int .i64 0, .int .i64 0, .string ByteArray.empty, .string ByteArray.empty, .slice none 0 0], .int .i64 0, .int .i64 0, .bool false],[]⟩ 8 (by kernel_rfl) (by kernel_rfl) (by kernel_rfl) (by kernel_rfl)) ?_
 intro W base args ds gs before hval0 hW hcnd _
 have hval:∀(j:Nat) t v,Tryz.f3.params[j]?=some t→args[j]?=some v→Value.okWide Tryz.prog W .any base t v:=hval0
 have hW':=hW
 obtain⟨p,q,hA0,hV,rfl,hfz,hnd⟩:=hW
 have hA:DataW.TrodAll enc Tryz.prog W 0 (fun _=>true) true Tryz.f3.params.toList args.toList ds p:=hA0
 rw[Tryz.params3]at hA hval
 obtain⟨v0,vs0,d0,ds0,p0,q0,hargs,rfl,rfl,h0,r0⟩:=trodAll_cons hA
 obtain⟨v1,vs1,d1,ds1,p1,q1,rfl,rfl,rfl,h1,r1⟩:=trodAll_cons r0
 obtain⟨v2,vs2,d2,ds2,p2,q2,rfl,rfl,rfl,h2,r2⟩:=trodAll_cons r1
 obtain⟨v3,vs3,d3,ds3,p3,q3,rfl,rfl,rfl,h3,r3⟩:=trodAll_cons r2
 obtain⟨rfl,rfl,rfl⟩:=trodAll_nil r3
 obtain rfl:args=#[v0,v1,v2,v3]:=by cases args;simp_all
 obtain⟨rfl,rfl⟩:=trodVars_none hV
 have k0:=h0
 have lt0:=EJ h0
 obtain⟨a0,rfl,w0⟩:=Gi (okWide_struct Tryz.underlying24 (hval 0 24 v0 rfl rfl)) h0
 obtain⟨a1,rfl,rfl,rfl,w1⟩:=open_int Tryz.underlying3 (hval 1 3 v1 rfl rfl) h1
 obtain⟨a2,rfl,rfl,rfl,w2⟩:=open_int Tryz.underlying3 (hval 2 3 v2 rfl rfl) h2
 obtain⟨a3,rfl,rfl,rfl⟩:=open_bool Tryz.underlying4 (hval 3 4 v3 rfl rfl) h3
 clear hA0 hval0
 refine(qD a0 a1 a2 a3 W w0).mono fun e W' ⟨he,bel⟩=> ?_
 subst he
 exact⟨_,rfl,_,_,_,[],_,[],hW',trodAll_mk1 (shut_bool Tryz.underlying4 _),(trodAll_cons_mk (Below.trod ub (by kernel_rfl) (of_decide_eq_true (by kernel_rfl)) k0 bel lt0) (trodAll_cons_mk (shut_int Tryz.underlying3 w1) (trodAll_cons_mk (shut_int Tryz.underlying3 w2) (trodAll_cons_mk (shut_bool Tryz.underlying4 _) trodAll_mk0)))),rfl,bel.frame _,fun h=>by cases h⟩
theorem tN:(Tryz.pinned).checked.prog.funcNamed Rows.sessionNilRow.func=some 3:=by kernel_rfl
theorem tO:(Rows.sessionNilRow.inPlace==Tryz.prog.inPlace 3)=true:=by kernel_rfl
theorem tP:(Rows.sessionNilRow.unfollowed==Tryz.prog.unfollowed 3)=true:=by kernel_rfl
theorem tQ:(Rows.sessionNilRow.recurses==Tryz.prog.recurses 3)=true:=by kernel_rfl
theorem tR:(Rows.sessionNilRow.named==Tryz.prog.varsNamed 3)=true:=by kernel_rfl
theorem tU:joinedFacts Tryz.prog 3 Tryz.f3 Rows.sessionNilSpec Rows.sessionNilRow=true:=by
 unfold joinedFacts
 rw[sH,wL,AD,tO,tP,tQ,tR]
 kernel_rfl
theorem tV:Func.isInstance (Tryz.pinned).checked.prog Tryz.f3 Rows.sessionNilRow.origin Rows.sessionNilRow.targs:=of_decide_eq_true (by kernel_rfl)
theorem tW:Func.isWrapper (Tryz.pinned).checked.prog Tryz.f3 Rows.sessionNilRow.wrapper Rows.sessionNilRow.mainSum:=by
 unfold Func.isWrapper;rw[if_neg (of_decide_eq_false (by kernel_rfl))];exact⟨rfl,rfl⟩
theorem qN:Rows.sessionNilRow.holds Tryz.pinned (OpenSpec.ofChange Rows.sessionNilSpec):=
 OpenClaim.holds_of_wide 3 Tryz.f3 rfl rfl rfl rfl rfl rfl rfl ⟨rfl,rfl,rfl,rfl,rfl⟩ rfl rfl rfl rfl rfl tN Tryz.func3 tU tV tW
  (fun os started H enc _=>ou os started H enc)
theorem sessionNil_proved:Rows.SessionNilSaid:=qN
end Go.Proofs.YtngiibgdgenidaaGreat
