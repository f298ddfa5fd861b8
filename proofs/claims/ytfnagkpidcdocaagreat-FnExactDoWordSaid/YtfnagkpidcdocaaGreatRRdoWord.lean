/- The law FnExactDoWord: for every table and every worker the call returns true and leaves its arguments as they were. No condition. -/
import Derived.Test.YtfnagkpidcdocaaGreatM33
import Derived.Test.YtfnagkpidcdocaaGreatM34
import Derived.Test.YtfnagkpidcdocaaGreatM35
import Derived.OpenShut
import Derived.ShutString
import Derived.Carry
import Derived.SizedLaws
set_option linter.all false
namespace Go.Proofs.YtfnagkpidcdocaaGreat.fnExactDoWord
open Go Go.ChangeShapes Go.WideShapes Go.ChangeAt Go.RowKit Go.Vi T2
set_option maxRecDepth 100000
theorem own:ownKnob Tryz.prog.godebug=none:=by kernel_rfl
theorem laidOut:laidOutB Tryz.prog=true:=by kernel_rfl
def plain:List TypeId:=[60,152,25,22,242,240,388,23,245,64,26,62,3,4,9]
theorem Ge:uR Tryz.prog plain=true:=by kernel_rfl
theorem lifted (os:Os) (started:os.Started) (H:Type) (enc:TypeId×Value->H):
  ReturnsInHanded {} Tryz.checked os 6 .any (Rows.fnExactDoWordSpec.pre6 enc Tryz.prog Tryz.f6 Rows.fnExactDoWordRow.domain false) (Rows.fnExactDoWordSpec.post enc Tryz.prog Tryz.f6 false true false false):=by
 refine returnsInHanded_of_change (C:=Tryz.checked) own started (by kernel_rfl) Tryz.func6
  (ChangeSpec.witness6 (enc:=enc) (C:=Tryz.checked) false ⟨#[],#[.slice none 0 0,.agg #[.int .i64 0,.string ⟨#[]⟩,.string ⟨#[]⟩,.int .i64 0,.int .i64 0,.int .i64 0,.string ⟨#[]⟩,.slice none 0 0,.slice none 0 0]],[]⟩ 8 (by kernel_rfl) (by kernel_rfl) (by kernel_rfl) (by kernel_rfl)) ?_
 intro W base args ds gs before S hW a4 _;have E:∀(j:Nat) t v,Tryz.f6.params[j]? =some t->args[j]? =some v->Value.okWide Tryz.prog W .any base t v:=S;have I:=hW;obtain ⟨p,q,a3,hV,rfl,_,_⟩:=hW;have hA:DataW.TrodAll enc Tryz.prog W 0 (λ_=>true) true Tryz.f6.params.toList args.toList ds p:=a3;rw[Tryz.params6]at hA E;obtain ⟨v0,v1,d0,d1,p0,p1,rfl,rfl,rfl,h0,h1⟩:=trodAll_two hA;obtain ⟨rfl,rfl⟩:=trodVars_none hV;simp only[List.append_nil]at I;have a0:∀x∈p0++p1,x.block<W.heap.size:=λx J=>by simpa using I.lt x J
 obtain ⟨a,len,cap,rfl⟩:=okWide_slice Tryz.underlying60 (E 0 60 v0 rfl rfl);obtain ⟨n,xs,a1,U⟩:=HK Ge (by simp[plain]) Tryz.underlying60 h0;obtain ⟨n2,ys,V,M⟩:=EZ Ge (by simp[plain]) Tryz.underlying64 (E 1 64 v1 rfl rfl) h1;have hargs:Args W [.d (.lst xs),.agg (ys.map .d)] (#[.slice a len cap,v1]:Array Value).toList:=by
  simp only[Args,dH];exact ⟨.slice a len cap,_,rfl,a1,v1,[],rfl,V,rfl⟩
 refine (HJ (o:=real (Gp cu bw) (Gq cu bw)) rfl (by kernel_rfl) VY hargs (Eu rfl U M)).mono λe W' ⟨he,O⟩=> ?_
 subst he;exact ⟨_,rfl,_,_,_,[],_,[],I,trodAll_mk1 (shut_bool (t:=4) (by kernel_rfl) _),trodAll_mk2 (Below.trod laidOut (by kernel_rfl) (of_decide_eq_true (by kernel_rfl)) h0 O (λx J=>a0 x (by simp[J]))) (Below.trod laidOut (by kernel_rfl) (of_decide_eq_true (by kernel_rfl)) h1 O (λx J=>a0 x (by simp[J]))),rfl,O.frame _,λh=>by cases h⟩
theorem over:Rows.fnExactDoWordRow.holds Tryz.pinned (OpenSpec.ofChange Rows.fnExactDoWordSpec):=
 OpenClaim.holds_of_wide 6 Tryz.f6 rfl rfl rfl rfl rfl rfl rfl ⟨rfl,rfl,rfl,rfl,rfl⟩ rfl rfl rfl rfl rfl named Tryz.func6 closed
  (of_decide_eq_true (by kernel_rfl)) (by unfold Func.isWrapper;first | (rw[if_pos (by decide+kernel)];kernel_rfl) | (rw[if_neg (by decide+kernel)];exact ⟨rfl,rfl⟩))
  (λos started H enc _=>lifted os started H enc)
theorem proved:Rows.FnExactDoWordSaid:=over
#print axioms proved
end Go.Proofs.YtfnagkpidcdocaaGreat.fnExactDoWord
namespace Go.Proofs.YtfnagkpidcdocaaGreat
theorem fnExactDoWord_holds:Rows.FnExactDoWordSaid:=fnExactDoWord.proved
end Go.Proofs.YtfnagkpidcdocaaGreat
