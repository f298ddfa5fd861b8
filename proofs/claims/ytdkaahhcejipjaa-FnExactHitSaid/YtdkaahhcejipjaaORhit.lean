/- The law FnExactHit: for every Over and number the call returns true and leaves its arguments as they were. No condition. -/
import Derived.Test.YtdkaahhcejipjaaRows
import Derived.Test.YtdkaahhcejipjaaOD15
import Derived.Test.YtdkaahhcejipjaaOV2
import Derived.WalkKit
import Derived.ProofKit
import Derived.OpenShut
import Derived.ShutString
import Derived.ChangeOld
import Derived.Below
import Derived.Carry
import Derived.SizedLaws
set_option linter.unusedVariables false
set_option linter.unusedSimpArgs false
set_option linter.unnecessarySimpa false
set_option linter.unusedSectionVars false
namespace Go.Proofs.Ytdkaahhcejipjaa.fnExactHit
open Go Go.ChangeShapes Go.WideShapes Go.ChangeAt Go.RowKit Go.Vi T1
set_option linter.unusedVariables false
set_option maxRecDepth 100000
theorem own : ownKnob Try.prog.godebug = none := by kernel_rfl
theorem laidOut : laidOutB Try.prog = true := by kernel_rfl
def plain : List TypeId := [25, 22, 23, 95, 93, 91, 3, 4, 9]
theorem isPlain : plainB Try.prog plain = true := by kernel_rfl
theorem lifted (os : Os) (started : os.Started) (H : Type) (enc : TypeId × Value → H) :
    ReturnsInHanded {} Try.checked os 3 .any (Rows.fnExactHitSpec.pre6 enc Try.prog Try.f3 Rows.fnExactHitRow.domain false) (Rows.fnExactHitSpec.post enc Try.prog Try.f3 false true false false) := by
  refine returnsInHanded_of_change (C := Try.checked) own started (by kernel_rfl) Try.func3
    (ChangeSpec.witness6 (enc := enc) (C := Try.checked) false ⟨#[], #[.agg #[.int .i64 0, .int .i64 0, .int .i64 0, .slice none 0 0, .slice none 0 0, .slice none 0 0, .bool false], .int .i64 0], []⟩ 8 (by kernel_rfl) (by kernel_rfl) (by kernel_rfl) (by kernel_rfl)) ?_
  intro W base args ds gs before hval0 hW hcnd _
  have hval : ∀ (j : Nat) t v, Try.f3.params[j]? = some t → args[j]? = some v → Value.okWide Try.prog W .any base t v := hval0
  have hW' := hW
  obtain ⟨p, q, hA0, hV, rfl, _, _⟩ := hW
  have hA : DataW.TrodAll enc Try.prog W 0 (fun _ => true) true Try.f3.params.toList args.toList ds p := hA0
  rw [Try.params3] at hA hval
  obtain ⟨v0, v1, d0, d1, p0, p1, rfl, rfl, rfl, h0, h1⟩ := trodAll_two hA
  obtain ⟨rfl, rfl⟩ := trodVars_none hV
  simp only [List.append_nil] at hW'
  have hlt : ∀ x ∈ p0 ++ p1, x.block < W.heap.size := fun x hx => by simpa using hW'.lt x hx
  obtain ⟨now, rfl, rfl, rfl, hnow⟩ := open_int Try.underlying3 (hval 1 3 v1 rfl rfl) h1
  obtain ⟨n, xs, hArg, hFits⟩ := arg_struct isPlain (by simp [plain]) Try.underlying25 (hval 0 25 v0 rfl rfl) h0
  have hargs : Args W [.agg (xs.map .d), .d (.int .i64 now)] (#[v0, .int .i64 now] : Array Value).toList := by
    simp only [Args, RVs]
    exact ⟨v0, [.int .i64 now], rfl, hArg, .int .i64 now, [], rfl, by simp only [RV, RD], rfl⟩
  refine (law_calls (o := real (callD vfun vloop) (loopD vfun vloop)) rfl (by kernel_rfl) hF hargs (hit_law rfl hFits now hnow)).mono fun e W' ⟨he, bel⟩ => ?_
  subst he
  exact ⟨_, rfl, _, _, _, [], _, [], hW', trodAll_mk1 (shut_bool Try.underlying4 _), trodAll_mk2 (Below.trod laidOut (by kernel_rfl) (of_decide_eq_true (by kernel_rfl)) h0 bel (fun x hx => hlt x (by simp [hx]))) (shut_int Try.underlying3 hnow), rfl, bel.frame _, fun h => by cases h⟩
theorem over : Rows.fnExactHitRow.holds Try.pinned (OpenSpec.ofChange Rows.fnExactHitSpec) :=
  OpenClaim.holds_of_wide 3 Try.f3 rfl rfl rfl rfl rfl rfl rfl ⟨rfl, rfl, rfl, rfl, rfl⟩ rfl rfl rfl rfl rfl (by kernel_rfl) Try.func3 (by kernel_rfl)
    (of_decide_eq_true (by kernel_rfl)) (by unfold Func.isWrapper; first | (rw [if_pos (by decide +kernel)]; kernel_rfl) | (rw [if_neg (by decide +kernel)]; exact ⟨rfl, rfl⟩))
    (fun os started H enc _ => lifted os started H enc)
theorem proved : Rows.FnExactHitSaid := over
#print axioms proved
end Go.Proofs.Ytdkaahhcejipjaa.fnExactHit
namespace Go.Proofs.Ytdkaahhcejipjaa
/-- The row, under a short name, for the claim. -/
theorem fnExactHit_holds : Rows.FnExactHitSaid := fnExactHit.proved
end Go.Proofs.Ytdkaahhcejipjaa
