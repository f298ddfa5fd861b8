/- The law FnExactOneEach: for every House the call returns true and leaves its argument as it was. No condition. -/
import Derived.Test.YtdkaahhcejipjaaRows
import Derived.Test.YtdkaahhcejipjaaoneEach
import Derived.Test.YtdkaahhcejipjaaV2
import Derived.WalkKit
import Derived.ProofKit
import Derived.OpenShut
import Derived.ShutString
import Derived.ChangeOld
import Derived.Below
import Derived.Carry
import Derived.SizedLaws
set_option linter.unusedVariables false
set_option linter.unusedSimpArgs false
namespace Go.Proofs.Ytdkaahhcejipjaa.fnExactOneEach
open Go Go.ChangeShapes Go.WideShapes Go.ChangeAt Go.RowKit Go.Vi T1
set_option linter.unusedVariables false
set_option maxRecDepth 100000
theorem own : ownKnob Try.prog.godebug = none := by kernel_rfl
theorem laidOut : laidOutB Try.prog = true := by kernel_rfl
def plain : List TypeId := [40, 36, 37, 38, 111, 25, 114, 109, 22, 23, 95, 93, 91, 106, 107, 154, 157, 152, 172, 3, 4, 9]
theorem isPlain : plainB Try.prog plain = true := by kernel_rfl
theorem lifted (os : Os) (started : os.Started) (H : Type) (enc : TypeId × Value → H) :
    ReturnsInHanded {} Try.checked os 7 .any (Rows.fnExactOneEachSpec.pre6 enc Try.prog Try.f7 Rows.fnExactOneEachRow.domain false) (Rows.fnExactOneEachSpec.post enc Try.prog Try.f7 false true false false) := by
  refine returnsInHanded_of_change (C := Try.checked) own started (by kernel_rfl) Try.func7
    (ChangeSpec.witness6 (enc := enc) (C := Try.checked) false ⟨#[], #[.agg #[.slice none 0 0, .slice none 0 0, .slice none 0 0, .int .i64 0, .int .i64 0]], []⟩ 8 (by kernel_rfl) (by kernel_rfl) (by kernel_rfl) (by kernel_rfl)) ?_
  intro W base args ds gs before hval0 hW hcnd _
  have hval : ∀ (j : Nat) t v, Try.f7.params[j]? = some t → args[j]? = some v → Value.okWide Try.prog W .any base t v := hval0
  have hW' := hW
  obtain ⟨p, q, hA0, hV, rfl, _, _⟩ := hW
  have hA : DataW.TrodAll enc Try.prog W 0 (fun _ => true) true Try.f7.params.toList args.toList ds p := hA0
  rw [Try.params7] at hA hval
  obtain ⟨v0, d0, rfl, rfl, h0⟩ := trodAll_one hA
  obtain ⟨rfl, rfl⟩ := trodVars_none hV
  simp only [List.append_nil] at hW'
  have hlt : ∀ x ∈ p, x.block < W.heap.size := fun x hx => by simpa using hW'.lt x hx
  obtain ⟨n, xs, hArg, hFits⟩ := arg_struct isPlain (by simp [plain]) Try.underlying40 (hval 0 40 v0 rfl rfl) h0
  have hargs : Args W [.agg (xs.map .d)] (#[v0] : Array Value).toList := by
    simp only [Args, RVs]
    exact ⟨v0, [], rfl, hArg, rfl⟩
  refine (law_calls (o := real (callD vfun vloop) (loopD vfun vloop)) rfl (by kernel_rfl) hF hargs (oneEach_law rfl hFits)).mono fun e W' ⟨he, bel⟩ => ?_
  subst he
  exact ⟨_, rfl, _, _, _, [], _, [], hW', trodAll_mk1 (shut_bool Try.underlying4 _), trodAll_mk1 (Below.trod laidOut (by kernel_rfl) (of_decide_eq_true (by kernel_rfl)) h0 bel hlt), rfl, bel.frame _, fun h => by cases h⟩
theorem over : Rows.fnExactOneEachRow.holds Try.pinned (OpenSpec.ofChange Rows.fnExactOneEachSpec) :=
  OpenClaim.holds_of_wide 7 Try.f7 rfl rfl rfl rfl rfl rfl rfl ⟨rfl, rfl, rfl, rfl, rfl⟩ rfl rfl rfl rfl rfl (by kernel_rfl) Try.func7 (by kernel_rfl)
    (of_decide_eq_true (by kernel_rfl)) (by unfold Func.isWrapper; first | (rw [if_pos (by decide +kernel)]; kernel_rfl) | (rw [if_neg (by decide +kernel)]; exact ⟨rfl, rfl⟩))
    (fun os started H enc _ => lifted os started H enc)
theorem proved : Rows.FnExactOneEachSaid := over
#print axioms proved
end Go.Proofs.Ytdkaahhcejipjaa.fnExactOneEach
namespace Go.Proofs.Ytdkaahhcejipjaa
/-- The row, under a short name, for the claim. -/
theorem fnExactOneEach_holds : Rows.FnExactOneEachSaid := fnExactOneEach.proved
end Go.Proofs.Ytdkaahhcejipjaa
