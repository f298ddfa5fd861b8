/-
  NARROWER THAN 'FOR EVERY INPUT', by the rows' own cells (each row's printed sentence says how): FnExactHit: loops · FnExactStarted: loops · FnExactWaiting: loops · FnExactNotTooOften: loops · FnExactOneEach: loops · FnExactCodeThere: loops.
  DERIVED. THE GIVEN ROWS OF THIS SEAT. 6 by the template 'for every input the law returns true; each argument reads behind the call as it read before'; 0 by the template 'total and deterministic' (their statements: YtdkaahhcejipjaaTotals.lean).
  GIVEN WITH THE SEED: the statements are not yours to turn. If you find one false, say at which input.
  Laid BY PROGRAM, IN A SANDBOX (cutbox-rows.mjs): the forced cells as the released guide's own fill.sh prints them over the translation 8f7d6ec3f59f0937… (all of the seat's roots in one cut). By AI agents, Wed Nov 11 2026. No macro, syntax, notation, axiom, sorry.
-/
import Derived.Test.YtdkaahhcejipjaaChecked
import GoSem.Claim
import GoSem.ClaimJoined
import GoSem.ClaimMapViews
import Derived.JoinedTies
import Derived.KernelRfl
namespace Go.Proofs.Ytdkaahhcejipjaa
/- THE CELL 'sum', in the pinned program and in every row, IS THE sha256 OF THE DUMP (.gsa) THAT YtdkaahhcejipjaaProg.lean LOADS. Nothing in Lean hashes anything: it is a label: what it is worth is what the hold of that sum in a sandbox is worth. -/
noncomputable def Try.pinned : Pinned := { name := "ytdkaahhcejipjaa", sum := "8f7d6ec3f59f0937c285e7f9621249c76de31cd2ef1e566ca389efe8e5005027", checked := Try.checked }
namespace Rows
def none {H : Type} : Left H := { results := [], args := [] }

/-- 'laws.FnExactHit': WHATEVER THE INPUT: true; the input reads as it did. -/
def fnExactHitSpec : ChangeSpec := { name := "fnExactHit", fn := fun _ => fun
  | [d1, d2] => { results := [.lit (.bool true)], args := [d1, d2] }
  | _ => none }
def fnExactHitRow : OpenClaim := { program := "ytdkaahhcejipjaa", sum := "8f7d6ec3f59f0937c285e7f9621249c76de31cd2ef1e566ca389efe8e5005027", func := "loop.example/g00236/laws.FnExactHit", spec := "fnExactHit", unfollowed := true, recurses := true, loops := true, apart := false }
def FnExactHitSaid : Prop := fnExactHitRow.holds Try.pinned (OpenSpec.ofChange fnExactHitSpec)

/-- ITS FALSE NEIGHBOUR: 'it returns false'. Refute it at one input. -/
def fnExactHitWrong : ChangeSpec := { name := "fnExactHit", fn := fun _ => fun
  | [d1, d2] => { results := [.lit (.bool false)], args := [d1, d2] }
  | _ => none }
def FnExactHitWrongFalsely : Prop := fnExactHitRow.holds Try.pinned (OpenSpec.ofChange fnExactHitWrong)

/-- 'laws.FnExactStarted': WHATEVER THE INPUT: true; the input reads as it did. -/
def fnExactStartedSpec : ChangeSpec := { name := "fnExactStarted", fn := fun _ => fun
  | [d] => { results := [.lit (.bool true)], args := [d] }
  | _ => none }
def fnExactStartedRow : OpenClaim := { program := "ytdkaahhcejipjaa", sum := "8f7d6ec3f59f0937c285e7f9621249c76de31cd2ef1e566ca389efe8e5005027", func := "loop.example/g00236/laws.FnExactStarted", spec := "fnExactStarted", recurses := true, loops := true, apart := false }
def FnExactStartedSaid : Prop := fnExactStartedRow.holds Try.pinned (OpenSpec.ofChange fnExactStartedSpec)

/-- ITS FALSE NEIGHBOUR: 'it returns false'. Refute it at one input. -/
def fnExactStartedWrong : ChangeSpec := { name := "fnExactStarted", fn := fun _ => fun
  | [d] => { results := [.lit (.bool false)], args := [d] }
  | _ => none }
def FnExactStartedWrongFalsely : Prop := fnExactStartedRow.holds Try.pinned (OpenSpec.ofChange fnExactStartedWrong)

/-- 'laws.FnExactWaiting': WHATEVER THE INPUT: true; the input reads as it did. -/
def fnExactWaitingSpec : ChangeSpec := { name := "fnExactWaiting", fn := fun _ => fun
  | [d] => { results := [.lit (.bool true)], args := [d] }
  | _ => none }
def fnExactWaitingRow : OpenClaim := { program := "ytdkaahhcejipjaa", sum := "8f7d6ec3f59f0937c285e7f9621249c76de31cd2ef1e566ca389efe8e5005027", func := "loop.example/g00236/laws.FnExactWaiting", spec := "fnExactWaiting", recurses := true, loops := true, apart := false }
def FnExactWaitingSaid : Prop := fnExactWaitingRow.holds Try.pinned (OpenSpec.ofChange fnExactWaitingSpec)

/-- ITS FALSE NEIGHBOUR: 'it returns false'. Refute it at one input. -/
def fnExactWaitingWrong : ChangeSpec := { name := "fnExactWaiting", fn := fun _ => fun
  | [d] => { results := [.lit (.bool false)], args := [d] }
  | _ => none }
def FnExactWaitingWrongFalsely : Prop := fnExactWaitingRow.holds Try.pinned (OpenSpec.ofChange fnExactWaitingWrong)

/-- 'laws.FnExactNotTooOften': WHATEVER THE INPUT: true; the input reads as it did. -/
def fnExactNotTooOftenSpec : ChangeSpec := { name := "fnExactNotTooOften", fn := fun _ => fun
  | [d] => { results := [.lit (.bool true)], args := [d] }
  | _ => none }
def fnExactNotTooOftenRow : OpenClaim := { program := "ytdkaahhcejipjaa", sum := "8f7d6ec3f59f0937c285e7f9621249c76de31cd2ef1e566ca389efe8e5005027", func := "loop.example/g00236/laws.FnExactNotTooOften", spec := "fnExactNotTooOften", recurses := true, loops := true, apart := false }
def FnExactNotTooOftenSaid : Prop := fnExactNotTooOftenRow.holds Try.pinned (OpenSpec.ofChange fnExactNotTooOftenSpec)

/-- ITS FALSE NEIGHBOUR: 'it returns false'. Refute it at one input. -/
def fnExactNotTooOftenWrong : ChangeSpec := { name := "fnExactNotTooOften", fn := fun _ => fun
  | [d] => { results := [.lit (.bool false)], args := [d] }
  | _ => none }
def FnExactNotTooOftenWrongFalsely : Prop := fnExactNotTooOftenRow.holds Try.pinned (OpenSpec.ofChange fnExactNotTooOftenWrong)

/-- 'laws.FnExactOneEach': WHATEVER THE INPUT: true; the input reads as it did. -/
def fnExactOneEachSpec : ChangeSpec := { name := "fnExactOneEach", fn := fun _ => fun
  | [d] => { results := [.lit (.bool true)], args := [d] }
  | _ => none }
def fnExactOneEachRow : OpenClaim := { program := "ytdkaahhcejipjaa", sum := "8f7d6ec3f59f0937c285e7f9621249c76de31cd2ef1e566ca389efe8e5005027", func := "loop.example/g00236/laws.FnExactOneEach", spec := "fnExactOneEach", unfollowed := true, recurses := true, loops := true, apart := false }
def FnExactOneEachSaid : Prop := fnExactOneEachRow.holds Try.pinned (OpenSpec.ofChange fnExactOneEachSpec)

/-- ITS FALSE NEIGHBOUR: 'it returns false'. Refute it at one input. -/
def fnExactOneEachWrong : ChangeSpec := { name := "fnExactOneEach", fn := fun _ => fun
  | [d] => { results := [.lit (.bool false)], args := [d] }
  | _ => none }
def FnExactOneEachWrongFalsely : Prop := fnExactOneEachRow.holds Try.pinned (OpenSpec.ofChange fnExactOneEachWrong)

/-- 'laws.FnExactCodeThere': WHATEVER THE INPUT: true; the input reads as it did. -/
def fnExactCodeThereSpec : ChangeSpec := { name := "fnExactCodeThere", fn := fun _ => fun
  | [d] => { results := [.lit (.bool true)], args := [d] }
  | _ => none }
def fnExactCodeThereRow : OpenClaim := { program := "ytdkaahhcejipjaa", sum := "8f7d6ec3f59f0937c285e7f9621249c76de31cd2ef1e566ca389efe8e5005027", func := "loop.example/g00236/laws.FnExactCodeThere", spec := "fnExactCodeThere", unfollowed := true, recurses := true, loops := true, apart := false }
def FnExactCodeThereSaid : Prop := fnExactCodeThereRow.holds Try.pinned (OpenSpec.ofChange fnExactCodeThereSpec)

/-- ITS FALSE NEIGHBOUR: 'it returns false'. Refute it at one input. -/
def fnExactCodeThereWrong : ChangeSpec := { name := "fnExactCodeThere", fn := fun _ => fun
  | [d] => { results := [.lit (.bool false)], args := [d] }
  | _ => none }
def FnExactCodeThereWrongFalsely : Prop := fnExactCodeThereRow.holds Try.pinned (OpenSpec.ofChange fnExactCodeThereWrong)

/- THE SECOND FORM. 'bulk': how many values and letters a reading holds, each counted each time it is reached (what is shared counts as often as it is met; a slice's spare places count too). A statement '..UptoSaid' is the law's where the arguments, and the package variables that the reading takes, are together of bulk at most 1048576: NARROWER than '..Said'. Prove '..Said' where nothing that the law and all that it calls make is longer than what came in: it says more and counts as full. Else prove '..UptoSaid'. A law counts once. -/
mutual
def uptoBulk {H : Type} : DataW H → Nat
  | .lit (.string bytes) => bytes.length + 1
  | .lit _ => 1
  | .nil => 1
  | .ptr d => uptoBulk d + 1
  | .slice elems spare => uptoBulkAll elems + uptoBulkAll spare + 1
  | .agg parts => uptoBulkAll parts + 1
  | .iface _ d => uptoBulk d + 1
  | .map entries => uptoBulkEntries entries + 1
  | .held _ => 1
def uptoBulkAll {H : Type} : List (DataW H) → Nat
  | [] => 0
  | d :: r => uptoBulk d + uptoBulkAll r
def uptoBulkEntries {H : Type} : List (Lit × DataW H) → Nat
  | [] => 0
  | x :: r => uptoBulkEntry x + uptoBulkEntries r
def uptoBulkEntry {H : Type} : Lit × DataW H → Nat
  | (.string bytes, d) => bytes.length + uptoBulk d + 1
  | (_, d) => uptoBulk d + 1
 end
def uptoSmall : (H : Type) → List (DataW H) → Bool := fun _ ds => decide (uptoBulkAll ds ≤ 1048576)
def OpenSpec.upto (s : _root_.Go.ChangeSpec) : _root_.Go.OpenSpec := { _root_.Go.OpenSpec.ofChange s with cond := some uptoSmall }

/-- 'laws.FnExactHit', WHERE WHAT IT READS IS OF BULK AT MOST 1048576: true; the input reads as it did. -/
def fnExactHitUptoRow : OpenClaim := { program := "ytdkaahhcejipjaa", sum := "8f7d6ec3f59f0937c285e7f9621249c76de31cd2ef1e566ca389efe8e5005027", func := "loop.example/g00236/laws.FnExactHit", spec := "fnExactHit", unfollowed := true, recurses := true, loops := true, apart := false, narrowed := true }
def FnExactHitUptoSaid : Prop := fnExactHitUptoRow.holds Try.pinned (OpenSpec.upto fnExactHitSpec)

/-- 'laws.FnExactStarted', WHERE WHAT IT READS IS OF BULK AT MOST 1048576: true; the input reads as it did. -/
def fnExactStartedUptoRow : OpenClaim := { program := "ytdkaahhcejipjaa", sum := "8f7d6ec3f59f0937c285e7f9621249c76de31cd2ef1e566ca389efe8e5005027", func := "loop.example/g00236/laws.FnExactStarted", spec := "fnExactStarted", recurses := true, loops := true, apart := false, narrowed := true }
def FnExactStartedUptoSaid : Prop := fnExactStartedUptoRow.holds Try.pinned (OpenSpec.upto fnExactStartedSpec)

/-- 'laws.FnExactWaiting', WHERE WHAT IT READS IS OF BULK AT MOST 1048576: true; the input reads as it did. -/
def fnExactWaitingUptoRow : OpenClaim := { program := "ytdkaahhcejipjaa", sum := "8f7d6ec3f59f0937c285e7f9621249c76de31cd2ef1e566ca389efe8e5005027", func := "loop.example/g00236/laws.FnExactWaiting", spec := "fnExactWaiting", recurses := true, loops := true, apart := false, narrowed := true }
def FnExactWaitingUptoSaid : Prop := fnExactWaitingUptoRow.holds Try.pinned (OpenSpec.upto fnExactWaitingSpec)

/-- 'laws.FnExactNotTooOften', WHERE WHAT IT READS IS OF BULK AT MOST 1048576: true; the input reads as it did. -/
def fnExactNotTooOftenUptoRow : OpenClaim := { program := "ytdkaahhcejipjaa", sum := "8f7d6ec3f59f0937c285e7f9621249c76de31cd2ef1e566ca389efe8e5005027", func := "loop.example/g00236/laws.FnExactNotTooOften", spec := "fnExactNotTooOften", recurses := true, loops := true, apart := false, narrowed := true }
def FnExactNotTooOftenUptoSaid : Prop := fnExactNotTooOftenUptoRow.holds Try.pinned (OpenSpec.upto fnExactNotTooOftenSpec)

/-- 'laws.FnExactOneEach', WHERE WHAT IT READS IS OF BULK AT MOST 1048576: true; the input reads as it did. -/
def fnExactOneEachUptoRow : OpenClaim := { program := "ytdkaahhcejipjaa", sum := "8f7d6ec3f59f0937c285e7f9621249c76de31cd2ef1e566ca389efe8e5005027", func := "loop.example/g00236/laws.FnExactOneEach", spec := "fnExactOneEach", unfollowed := true, recurses := true, loops := true, apart := false, narrowed := true }
def FnExactOneEachUptoSaid : Prop := fnExactOneEachUptoRow.holds Try.pinned (OpenSpec.upto fnExactOneEachSpec)

/-- 'laws.FnExactCodeThere', WHERE WHAT IT READS IS OF BULK AT MOST 1048576: true; the input reads as it did. -/
def fnExactCodeThereUptoRow : OpenClaim := { program := "ytdkaahhcejipjaa", sum := "8f7d6ec3f59f0937c285e7f9621249c76de31cd2ef1e566ca389efe8e5005027", func := "loop.example/g00236/laws.FnExactCodeThere", spec := "fnExactCodeThere", unfollowed := true, recurses := true, loops := true, apart := false, narrowed := true }
def FnExactCodeThereUptoSaid : Prop := fnExactCodeThereUptoRow.holds Try.pinned (OpenSpec.upto fnExactCodeThereSpec)

end Rows
end Go.Proofs.Ytdkaahhcejipjaa
