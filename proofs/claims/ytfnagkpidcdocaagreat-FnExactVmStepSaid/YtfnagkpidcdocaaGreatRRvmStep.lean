/- The law FnExactVmStep: for every code and every machine the call returns true and leaves its arguments as they were. No condition. -/
import Derived.Test.YtfnagkpidcdocaaGreatRows
import Derived.Test.YtfnagkpidcdocaaGreatM47
import Derived.Test.YtfnagkpidcdocaaGreatM48
import Derived.Test.YtfnagkpidcdocaaGreatM49
import Derived.WalkKit
import Derived.ProofKit
import Derived.OpenShut
import Derived.ShutString
import Derived.ChangeOld
import Derived.Below
import Derived.Carry
import Derived.SizedLaws
set_option linter.all false
namespace Go.Proofs.YtfnagkpidcdocaaGreat.fnExactVmStep
open Go Go.ChangeShapes Go.WideShapes Go.ChangeAt Go.RowKit Go.Vi T2
set_option maxRecDepth 100000
theorem own:ownKnob Tryz.prog.godebug=none:=by kernel_rfl
theorem laidOut:laidOutB Tryz.prog=true:=by kernel_rfl
def plain:List TypeId:=[25,22,242,240,388,23,245,49,47,259,26,62,3,9]
theorem Db:wA Tryz.prog plain=true:=by kernel_rfl
theorem lifted (os:Os) (started:os.Started) (H:Type) (enc:TypeId×Value->H):
  ReturnsInHanded {} Tryz.checked os 4 .any (Rows.fnExactVmStepSpec.pre6 enc Tryz.prog Tryz.f4 Rows.fnExactVmStepRow.domain false) (Rows.fnExactVmStepSpec.post enc Tryz.prog Tryz.f4 false true false false):=by
 refine returnsInHanded_of_change (C:=Tryz.checked) own started (by kernel_rfl) Tryz.func4
  (ChangeSpec.witness6 (enc:=enc) (C:=Tryz.checked) false ⟨#[],#[.agg #[.slice none 0 0,.slice none 0 0],.agg #[.slice none 0 0,.slice none 0 0]],[]⟩ 8 (by kernel_rfl) (by kernel_rfl) (by kernel_rfl) (by kernel_rfl)) ?_
 intro W base args ds gs before hval0 hW hcnd _;have hval:∀(j:Nat) t v,Tryz.f4.params[j]? =some t->args[j]? =some v->Value.okWide Tryz.prog W .any base t v:=hval0;have hW':=hW;obtain ⟨p,q,hA0,hV,rfl,_,_⟩:=hW;have hA:DataW.TrodAll enc Tryz.prog W 0 (λ_=>true) true Tryz.f4.params.toList args.toList ds p:=hA0;rw[Tryz.params4]at hA hval;obtain ⟨v0,v1,d0,d1,p0,p1,rfl,rfl,rfl,h0,h1⟩:=trodAll_two hA;obtain ⟨rfl,rfl⟩:=trodVars_none hV;simp only[List.append_nil]at hW';have hlt:∀x∈p0++p1,x.block<W.heap.size:=λx hx=>by simpa using hW'.lt x hx
 obtain ⟨n,xs,hArg,hFits⟩:=wC Db (by simp[plain]) Tryz.underlying25 (hval 0 25 v0 rfl rfl) h0;obtain ⟨n2,ys,hArg2,hFits2⟩:=wC Db (by simp[plain]) Tryz.underlying49 (hval 1 49 v1 rfl rfl) h1;have hargs:Args W [.agg (xs.map .d),.agg (ys.map .d)] (#[v0,v1]:Array Value).toList:=by
  simp only[Args,di];exact ⟨v0,_,rfl,hArg,v1,[],rfl,hArg2,rfl⟩
 refine (Ee (o:=real (Dp cF bB) (Dq cF bB)) rfl (by kernel_rfl) RF hargs (BI rfl hFits hFits2)).mono λe W' ⟨he,bel⟩=> ?_
 subst he;exact ⟨_,rfl,_,_,_,[],_,[],hW',trodAll_mk1 (shut_bool (t:=4) (by kernel_rfl) _),trodAll_mk2 (Below.trod laidOut (by kernel_rfl) (of_decide_eq_true (by kernel_rfl)) h0 bel (λx hx=>hlt x (by simp[hx]))) (Below.trod laidOut (by kernel_rfl) (of_decide_eq_true (by kernel_rfl)) h1 bel (λx hx=>hlt x (by simp[hx]))),rfl,bel.frame _,λh=>by cases h⟩
theorem over:Rows.fnExactVmStepRow.holds Tryz.pinned (OpenSpec.ofChange Rows.fnExactVmStepSpec):=
 OpenClaim.holds_of_wide 4 Tryz.f4 rfl rfl rfl rfl rfl rfl rfl ⟨rfl,rfl,rfl,rfl,rfl⟩ rfl rfl rfl rfl rfl named Tryz.func4 closed
  (of_decide_eq_true (by kernel_rfl)) (by unfold Func.isWrapper;first | (rw[if_pos (by decide+kernel)];kernel_rfl) | (rw[if_neg (by decide+kernel)];exact ⟨rfl,rfl⟩))
  (λos started H enc _=>lifted os started H enc)
theorem proved:Rows.FnExactVmStepSaid:=over
#print axioms proved
end Go.Proofs.YtfnagkpidcdocaaGreat.fnExactVmStep
namespace Go.Proofs.YtfnagkpidcdocaaGreat
theorem fnExactVmStep_holds:Rows.FnExactVmStepSaid:=fnExactVmStep.proved
end Go.Proofs.YtfnagkpidcdocaaGreat
