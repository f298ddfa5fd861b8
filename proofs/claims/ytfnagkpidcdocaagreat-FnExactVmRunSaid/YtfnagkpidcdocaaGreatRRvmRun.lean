/- The law FnExactVmRun: for every code, name, list of terms and number the call returns true and leaves its arguments as they were. No condition. -/
import Derived.Test.YtfnagkpidcdocaaGreatRows
import Derived.Test.YtfnagkpidcdocaaGreatM30
import Derived.Test.YtfnagkpidcdocaaGreatM31
import Derived.Test.YtfnagkpidcdocaaGreatM32
import Derived.WalkKit
import Derived.ProofKit
import Derived.OpenShut
import Derived.ShutString
import Derived.ChangeOld
import Derived.Below
import Derived.Carry
import Derived.SizedLaws
set_option linter.all false
namespace Go.Proofs.YtfnagkpidcdocaaGreat.fnExactVmRun
open Go Go.ChangeShapes Go.WideShapes Go.ChangeAt Go.RowKit Go.Vi T2
set_option maxRecDepth 100000
theorem own:ownKnob Tryz.prog.godebug=none:=by kernel_rfl
theorem laidOut:laidOutB Tryz.prog=true:=by kernel_rfl
def plain:List TypeId:=[25,22,242,240,388,23,245,26,62,3,9]
theorem Db:rY Tryz.prog plain=true:=by kernel_rfl
theorem lifted (os:Os) (started:os.Started) (H:Type) (enc:TypeId×Value->H):
  ReturnsInHanded {} Tryz.checked os 3 .any (Rows.fnExactVmRunSpec.pre6 enc Tryz.prog Tryz.f3 Rows.fnExactVmRunRow.domain false) (Rows.fnExactVmRunSpec.post enc Tryz.prog Tryz.f3 false true false false):=by
 refine returnsInHanded_of_change (C:=Tryz.checked) own started (by kernel_rfl) Tryz.func3
  (ChangeSpec.witness6 (enc:=enc) (C:=Tryz.checked) false ⟨#[],#[.agg #[.slice none 0 0,.slice none 0 0],.string ⟨#[]⟩,.slice none 0 0,.int .i64 0],[]⟩ 8 (by kernel_rfl) (by kernel_rfl) (by kernel_rfl) (by kernel_rfl)) ?_
 intro W base args ds gs before hval0 hW hcnd _;have hval:∀(j:Nat) t v,Tryz.f3.params[j]? =some t->args[j]? =some v->Value.okWide Tryz.prog W .any base t v:=hval0;have hW':=hW;obtain ⟨p,q,hA0,hV,rfl,_,_⟩:=hW;have hA:DataW.TrodAll enc Tryz.prog W 0 (fun _=>true) true Tryz.f3.params.toList args.toList ds p:=hA0;rw [Tryz.params3]at hA hval;obtain ⟨v0,v1,v2,v3,d0,d1,d2,d3,p0,p1,p2,p3,rfl,rfl,rfl,h0,h1,h2,h3⟩:=trodAll_four hA;obtain ⟨rfl,rfl⟩:=trodVars_none hV;simp only [List.append_nil]at hW';have hlt:∀x∈p0++p1++p2++p3,x.block<W.heap.size:=fun x hx=>by simpa using hW'.lt x hx
 obtain ⟨s,rfl,rfl,rfl,hs⟩:=Go.ChangeMaps.open_string Tryz.underlying9 (hval 1 9 v1 rfl rfl) h1;obtain ⟨now,rfl,rfl,rfl,hnow⟩:=open_int Tryz.underlying3 (hval 3 3 v3 rfl rfl) h3;obtain ⟨a,len,cap,rfl⟩:=okWide_slice Tryz.underlying26 (hval 2 26 v2 rfl rfl);obtain ⟨n,xs,hArg,hFits⟩:=Cn Db (by simp [plain]) Tryz.underlying25 (hval 0 25 v0 rfl rfl) h0;obtain ⟨n2,ys,hArg2,hFits2⟩:=Er Db (by simp [plain]) Tryz.underlying26 h2;have hargs:Args W [.agg (xs.map .d),.d (.str s),.d (.lst ys),.d (.int .i64 now)] (#[v0,.string s,.slice a len cap,.int .i64 now]:Array Value).toList:=by
  simp only [Args,dg];exact ⟨v0,_,rfl,hArg,.string s,_,rfl,by simp only [RV,RD],.slice a len cap,_,rfl,hArg2,.int .i64 now,[],rfl,by simp only [RV,RD],rfl⟩
 refine (Ep (o:=real (Dp cF bE) (Dq cF bE)) rfl (by kernel_rfl) hF hargs (D3 rfl hFits s hFits2 now)).mono fun e W' ⟨he,bel⟩=> ?_
 subst he;exact ⟨_,rfl,_,_,_,[],_,[],hW',trodAll_mk1 (shut_bool (t:=4) (by kernel_rfl) _),trodAll_mk4 (Below.trod laidOut (by kernel_rfl) (of_decide_eq_true (by kernel_rfl)) h0 bel (fun x hx=>hlt x (by simp [hx]))) (Go.ChangeMaps.shut_string Tryz.underlying9 hs) (Below.trod laidOut (by kernel_rfl) (of_decide_eq_true (by kernel_rfl)) h2 bel (fun x hx=>hlt x (by simp [hx]))) (shut_int Tryz.underlying3 hnow),rfl,bel.frame _,fun h=>by cases h⟩
theorem over:Rows.fnExactVmRunRow.holds Tryz.pinned (OpenSpec.ofChange Rows.fnExactVmRunSpec):=
 OpenClaim.holds_of_wide 3 Tryz.f3 rfl rfl rfl rfl rfl rfl rfl ⟨rfl,rfl,rfl,rfl,rfl⟩ rfl rfl rfl rfl rfl named Tryz.func3 closed
  (of_decide_eq_true (by kernel_rfl)) (by unfold Func.isWrapper;first | (rw [if_pos (by decide+kernel)];kernel_rfl) | (rw [if_neg (by decide+kernel)];exact ⟨rfl,rfl⟩))
  (fun os started H enc _=>lifted os started H enc)
theorem proved:Rows.FnExactVmRunSaid:=over
#print axioms proved
end Go.Proofs.YtfnagkpidcdocaaGreat.fnExactVmRun
namespace Go.Proofs.YtfnagkpidcdocaaGreat
theorem fnExactVmRun_holds:Rows.FnExactVmRunSaid:=fnExactVmRun.proved
end Go.Proofs.YtfnagkpidcdocaaGreat
