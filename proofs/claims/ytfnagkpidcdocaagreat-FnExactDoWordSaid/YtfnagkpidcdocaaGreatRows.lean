/-
  NARROWER THAN 'FOR EVERY INPUT', by the rows' own cells (each row's printed sentence says how): FnExactVmRun: loops · FnExactVmStep: loops · FnExactRenew: loops · FnExactDoWord: loops · FnExactHouseNew: loops.
  DERIVED. THE GIVEN ROWS OF THIS SEAT. 11 by the template 'for every input the law returns true; each argument reads behind the call as it read before'; 0 by the template 'total and deterministic' (their statements: YtfnagkpidcdocaaGreatTotals.lean).
  GIVEN WITH THE SEED: the statements are not yours to turn. If you find one false, say at which input.
  Laid BY PROGRAM, IN A SANDBOX (cutbox-rows.mjs): the forced cells as the released guide's own fill.sh prints them over the translation e4124d9b9e9abb39… (all of the seat's roots in one cut). By AI agents, Wed Nov 11 2026. No macro, syntax, notation, axiom, sorry.
-/
import Derived.Test.YtfnagkpidcdocaaGreatChecked
import GoSem.Claim
import GoSem.ClaimJoined
import GoSem.ClaimMapViews
import Derived.JoinedTies
import Derived.KernelRfl
namespace Go.Proofs.YtfnagkpidcdocaaGreat
/- THE CELL 'sum', in the pinned program and in every row, IS THE sha256 OF THE DUMP (.gsa) THAT YtfnagkpidcdocaaGreatProg.lean LOADS. Nothing in Lean hashes anything: it is a label: what it is worth is what the hold of that sum in a sandbox is worth. -/
noncomputable def Tryz.pinned : Pinned := { name := "ytfnagkpidcdocaagreat", sum := "e4124d9b9e9abb395eba4b9fffc1eda87bdf5797f5ec8b2f95db921f998c81a8", checked := Tryz.checked }
namespace Rows
def none {H : Type} : Left H := { results := [], args := [] }

/-- 'laws.FnExactVmRun': WHATEVER THE INPUT: true; the input reads as it did. -/
def fnExactVmRunSpec : ChangeSpec := { name := "fnExactVmRun", fn := fun _ => fun
  | [d1, d2, d3, d4] => { results := [.lit (.bool true)], args := [d1, d2, d3, d4] }
  | _ => none }
def fnExactVmRunRow : OpenClaim := { program := "ytfnagkpidcdocaagreat", sum := "e4124d9b9e9abb395eba4b9fffc1eda87bdf5797f5ec8b2f95db921f998c81a8", func := "loop.example/g00236/laws.FnExactVmRun", spec := "fnExactVmRun", unfollowed := true, recurses := true, loops := true, apart := false }
def FnExactVmRunSaid : Prop := fnExactVmRunRow.holds Tryz.pinned (OpenSpec.ofChange fnExactVmRunSpec)

/-- ITS FALSE NEIGHBOUR: 'it returns false'. Refute it at one input. -/
def fnExactVmRunWrong : ChangeSpec := { name := "fnExactVmRun", fn := fun _ => fun
  | [d1, d2, d3, d4] => { results := [.lit (.bool false)], args := [d1, d2, d3, d4] }
  | _ => none }
def FnExactVmRunWrongFalsely : Prop := fnExactVmRunRow.holds Tryz.pinned (OpenSpec.ofChange fnExactVmRunWrong)

/-- 'laws.FnExactVmStep': WHATEVER THE INPUT: true; the input reads as it did. -/
def fnExactVmStepSpec : ChangeSpec := { name := "fnExactVmStep", fn := fun _ => fun
  | [d1, d2] => { results := [.lit (.bool true)], args := [d1, d2] }
  | _ => none }
def fnExactVmStepRow : OpenClaim := { program := "ytfnagkpidcdocaagreat", sum := "e4124d9b9e9abb395eba4b9fffc1eda87bdf5797f5ec8b2f95db921f998c81a8", func := "loop.example/g00236/laws.FnExactVmStep", spec := "fnExactVmStep", unfollowed := true, recurses := true, loops := true, apart := false }
def FnExactVmStepSaid : Prop := fnExactVmStepRow.holds Tryz.pinned (OpenSpec.ofChange fnExactVmStepSpec)

/-- ITS FALSE NEIGHBOUR: 'it returns false'. Refute it at one input. -/
def fnExactVmStepWrong : ChangeSpec := { name := "fnExactVmStep", fn := fun _ => fun
  | [d1, d2] => { results := [.lit (.bool false)], args := [d1, d2] }
  | _ => none }
def FnExactVmStepWrongFalsely : Prop := fnExactVmStepRow.holds Tryz.pinned (OpenSpec.ofChange fnExactVmStepWrong)

/-- 'laws.FnExactRenew': WHATEVER THE INPUT: true; the input reads as it did. -/
def fnExactRenewSpec : ChangeSpec := { name := "fnExactRenew", fn := fun _ => fun
  | [d1, d2] => { results := [.lit (.bool true)], args := [d1, d2] }
  | _ => none }
def fnExactRenewRow : OpenClaim := { program := "ytfnagkpidcdocaagreat", sum := "e4124d9b9e9abb395eba4b9fffc1eda87bdf5797f5ec8b2f95db921f998c81a8", func := "loop.example/g00236/laws.FnExactRenew", spec := "fnExactRenew", unfollowed := true, recurses := true, loops := true, apart := false }
def FnExactRenewSaid : Prop := fnExactRenewRow.holds Tryz.pinned (OpenSpec.ofChange fnExactRenewSpec)

/-- ITS FALSE NEIGHBOUR: 'it returns false'. Refute it at one input. -/
def fnExactRenewWrong : ChangeSpec := { name := "fnExactRenew", fn := fun _ => fun
  | [d1, d2] => { results := [.lit (.bool false)], args := [d1, d2] }
  | _ => none }
def FnExactRenewWrongFalsely : Prop := fnExactRenewRow.holds Tryz.pinned (OpenSpec.ofChange fnExactRenewWrong)

/-- 'laws.FnExactDoWord': WHATEVER THE INPUT: true; the input reads as it did. -/
def fnExactDoWordSpec : ChangeSpec := { name := "fnExactDoWord", fn := fun _ => fun
  | [d1, d2] => { results := [.lit (.bool true)], args := [d1, d2] }
  | _ => none }
def fnExactDoWordRow : OpenClaim := { program := "ytfnagkpidcdocaagreat", sum := "e4124d9b9e9abb395eba4b9fffc1eda87bdf5797f5ec8b2f95db921f998c81a8", func := "loop.example/g00236/laws.FnExactDoWord", spec := "fnExactDoWord", unfollowed := true, recurses := true, loops := true, apart := false }
def FnExactDoWordSaid : Prop := fnExactDoWordRow.holds Tryz.pinned (OpenSpec.ofChange fnExactDoWordSpec)

/-- ITS FALSE NEIGHBOUR: 'it returns false'. Refute it at one input. -/
def fnExactDoWordWrong : ChangeSpec := { name := "fnExactDoWord", fn := fun _ => fun
  | [d1, d2] => { results := [.lit (.bool false)], args := [d1, d2] }
  | _ => none }
def FnExactDoWordWrongFalsely : Prop := fnExactDoWordRow.holds Tryz.pinned (OpenSpec.ofChange fnExactDoWordWrong)

/-- 'laws.FnExactHouseNew': WHATEVER THE INPUT: true; the input reads as it did. -/
def fnExactHouseNewSpec : ChangeSpec := { name := "fnExactHouseNew", fn := fun _ => fun
  | [d1, d2] => { results := [.lit (.bool true)], args := [d1, d2] }
  | _ => none }
def fnExactHouseNewRow : OpenClaim := { program := "ytfnagkpidcdocaagreat", sum := "e4124d9b9e9abb395eba4b9fffc1eda87bdf5797f5ec8b2f95db921f998c81a8", func := "loop.example/g00236/laws.FnExactHouseNew", spec := "fnExactHouseNew", unfollowed := true, recurses := true, loops := true, apart := false }
def FnExactHouseNewSaid : Prop := fnExactHouseNewRow.holds Tryz.pinned (OpenSpec.ofChange fnExactHouseNewSpec)

/-- ITS FALSE NEIGHBOUR: 'it returns false'. Refute it at one input. -/
def fnExactHouseNewWrong : ChangeSpec := { name := "fnExactHouseNew", fn := fun _ => fun
  | [d1, d2] => { results := [.lit (.bool false)], args := [d1, d2] }
  | _ => none }
def FnExactHouseNewWrongFalsely : Prop := fnExactHouseNewRow.holds Tryz.pinned (OpenSpec.ofChange fnExactHouseNewWrong)

/-- 'laws.FnVmOk': WHATEVER THE INPUT: true; the input reads as it did. -/
def fnVmOkSpec : ChangeSpec := { name := "fnVmOk", fn := fun _ => fun
  | [d] => { results := [.lit (.bool true)], args := [d] }
  | _ => none }
def fnVmOkRow : OpenClaim := { program := "ytfnagkpidcdocaagreat", sum := "e4124d9b9e9abb395eba4b9fffc1eda87bdf5797f5ec8b2f95db921f998c81a8", func := "loop.example/g00236/laws.FnVmOk", spec := "fnVmOk", unfollowed := true, recurses := true, apart := false }
def FnVmOkSaid : Prop := fnVmOkRow.holds Tryz.pinned (OpenSpec.ofChange fnVmOkSpec)

/-- ITS FALSE NEIGHBOUR: 'it returns false'. Refute it at one input. -/
def fnVmOkWrong : ChangeSpec := { name := "fnVmOk", fn := fun _ => fun
  | [d] => { results := [.lit (.bool false)], args := [d] }
  | _ => none }
def FnVmOkWrongFalsely : Prop := fnVmOkRow.holds Tryz.pinned (OpenSpec.ofChange fnVmOkWrong)

/-- 'laws.FnRuns': WHATEVER THE INPUT: true; the input reads as it did. -/
def fnRunsSpec : ChangeSpec := { name := "fnRuns", fn := fun _ => fun
  | [d] => { results := [.lit (.bool true)], args := [d] }
  | _ => none }
def fnRunsRow : OpenClaim := { program := "ytfnagkpidcdocaagreat", sum := "e4124d9b9e9abb395eba4b9fffc1eda87bdf5797f5ec8b2f95db921f998c81a8", func := "loop.example/g00236/laws.FnRuns", spec := "fnRuns", unfollowed := true, recurses := true, apart := false }
def FnRunsSaid : Prop := fnRunsRow.holds Tryz.pinned (OpenSpec.ofChange fnRunsSpec)

/-- ITS FALSE NEIGHBOUR: 'it returns false'. Refute it at one input. -/
def fnRunsWrong : ChangeSpec := { name := "fnRuns", fn := fun _ => fun
  | [d] => { results := [.lit (.bool false)], args := [d] }
  | _ => none }
def FnRunsWrongFalsely : Prop := fnRunsRow.holds Tryz.pinned (OpenSpec.ofChange fnRunsWrong)

/-- 'laws.FnStepped': WHATEVER THE INPUT: true; the input reads as it did. -/
def fnSteppedSpec : ChangeSpec := { name := "fnStepped", fn := fun _ => fun
  | [d] => { results := [.lit (.bool true)], args := [d] }
  | _ => none }
def fnSteppedRow : OpenClaim := { program := "ytfnagkpidcdocaagreat", sum := "e4124d9b9e9abb395eba4b9fffc1eda87bdf5797f5ec8b2f95db921f998c81a8", func := "loop.example/g00236/laws.FnStepped", spec := "fnStepped", unfollowed := true, recurses := true, apart := false }
def FnSteppedSaid : Prop := fnSteppedRow.holds Tryz.pinned (OpenSpec.ofChange fnSteppedSpec)

/-- ITS FALSE NEIGHBOUR: 'it returns false'. Refute it at one input. -/
def fnSteppedWrong : ChangeSpec := { name := "fnStepped", fn := fun _ => fun
  | [d] => { results := [.lit (.bool false)], args := [d] }
  | _ => none }
def FnSteppedWrongFalsely : Prop := fnSteppedRow.holds Tryz.pinned (OpenSpec.ofChange fnSteppedWrong)

/-- 'laws.FnCompiled': WHATEVER THE INPUT: true; the input reads as it did. -/
def fnCompiledSpec : ChangeSpec := { name := "fnCompiled", fn := fun _ => fun
  | [d] => { results := [.lit (.bool true)], args := [d] }
  | _ => none }
def fnCompiledRow : OpenClaim := { program := "ytfnagkpidcdocaagreat", sum := "e4124d9b9e9abb395eba4b9fffc1eda87bdf5797f5ec8b2f95db921f998c81a8", func := "loop.example/g00236/laws.FnCompiled", spec := "fnCompiled", unfollowed := true, recurses := true, apart := false }
def FnCompiledSaid : Prop := fnCompiledRow.holds Tryz.pinned (OpenSpec.ofChange fnCompiledSpec)

/-- ITS FALSE NEIGHBOUR: 'it returns false'. Refute it at one input. -/
def fnCompiledWrong : ChangeSpec := { name := "fnCompiled", fn := fun _ => fun
  | [d] => { results := [.lit (.bool false)], args := [d] }
  | _ => none }
def FnCompiledWrongFalsely : Prop := fnCompiledRow.holds Tryz.pinned (OpenSpec.ofChange fnCompiledWrong)

/-- 'laws.FnDid': WHATEVER THE INPUT: true; the input reads as it did. -/
def fnDidSpec : ChangeSpec := { name := "fnDid", fn := fun _ => fun
  | [d] => { results := [.lit (.bool true)], args := [d] }
  | _ => none }
def fnDidRow : OpenClaim := { program := "ytfnagkpidcdocaagreat", sum := "e4124d9b9e9abb395eba4b9fffc1eda87bdf5797f5ec8b2f95db921f998c81a8", func := "loop.example/g00236/laws.FnDid", spec := "fnDid", unfollowed := true, recurses := true, apart := false }
def FnDidSaid : Prop := fnDidRow.holds Tryz.pinned (OpenSpec.ofChange fnDidSpec)

/-- ITS FALSE NEIGHBOUR: 'it returns false'. Refute it at one input. -/
def fnDidWrong : ChangeSpec := { name := "fnDid", fn := fun _ => fun
  | [d] => { results := [.lit (.bool false)], args := [d] }
  | _ => none }
def FnDidWrongFalsely : Prop := fnDidRow.holds Tryz.pinned (OpenSpec.ofChange fnDidWrong)

/-- 'laws.FnRenewed': WHATEVER THE INPUT: true; the input reads as it did. -/
def fnRenewedSpec : ChangeSpec := { name := "fnRenewed", fn := fun _ => fun
  | [d] => { results := [.lit (.bool true)], args := [d] }
  | _ => none }
def fnRenewedRow : OpenClaim := { program := "ytfnagkpidcdocaagreat", sum := "e4124d9b9e9abb395eba4b9fffc1eda87bdf5797f5ec8b2f95db921f998c81a8", func := "loop.example/g00236/laws.FnRenewed", spec := "fnRenewed", unfollowed := true, recurses := true, apart := false }
def FnRenewedSaid : Prop := fnRenewedRow.holds Tryz.pinned (OpenSpec.ofChange fnRenewedSpec)

/-- ITS FALSE NEIGHBOUR: 'it returns false'. Refute it at one input. -/
def fnRenewedWrong : ChangeSpec := { name := "fnRenewed", fn := fun _ => fun
  | [d] => { results := [.lit (.bool false)], args := [d] }
  | _ => none }
def FnRenewedWrongFalsely : Prop := fnRenewedRow.holds Tryz.pinned (OpenSpec.ofChange fnRenewedWrong)

/- THE SECOND FORM. 'bulk': how many values and letters a reading holds, each counted each time it is reached (what is shared counts as often as it is met; a slice's spare places count too). A statement '..UptoSaid' is the law's where the arguments, and the package variables that the reading takes, are together of bulk at most 1048576: NARROWER than '..Said'. Prove '..Said' where nothing that the law and all that it calls make is longer than what came in: it says more and counts as full. Else prove '..UptoSaid'. A law counts once. -/
mutual
def uptoBulk {H : Type} : DataW H → Nat
  | .lit (.string bytes) => bytes.length + 1
  | .lit _ => 1
  | .nil => 1
  | .ptr d => uptoBulk d + 1
  | .slice elems spare => uptoBulkAll elems + uptoBulkAll spare + 1
  | .agg parts => uptoBulkAll parts + 1
  | .iface _ d => uptoBulk d + 1
  | .map entries => uptoBulkEntries entries + 1
  | .held _ => 1
def uptoBulkAll {H : Type} : List (DataW H) → Nat
  | [] => 0
  | d :: r => uptoBulk d + uptoBulkAll r
def uptoBulkEntries {H : Type} : List (Lit × DataW H) → Nat
  | [] => 0
  | x :: r => uptoBulkEntry x + uptoBulkEntries r
def uptoBulkEntry {H : Type} : Lit × DataW H → Nat
  | (.string bytes, d) => bytes.length + uptoBulk d + 1
  | (_, d) => uptoBulk d + 1
 end
def uptoSmall : (H : Type) → List (DataW H) → Bool := fun _ ds => decide (uptoBulkAll ds ≤ 1048576)
def OpenSpec.upto (s : _root_.Go.ChangeSpec) : _root_.Go.OpenSpec := { _root_.Go.OpenSpec.ofChange s with cond := some uptoSmall }

/-- 'laws.FnExactVmRun', WHERE WHAT IT READS IS OF BULK AT MOST 1048576: true; the input reads as it did. -/
def fnExactVmRunUptoRow : OpenClaim := { program := "ytfnagkpidcdocaagreat", sum := "e4124d9b9e9abb395eba4b9fffc1eda87bdf5797f5ec8b2f95db921f998c81a8", func := "loop.example/g00236/laws.FnExactVmRun", spec := "fnExactVmRun", unfollowed := true, recurses := true, loops := true, apart := false, narrowed := true }
def FnExactVmRunUptoSaid : Prop := fnExactVmRunUptoRow.holds Tryz.pinned (OpenSpec.upto fnExactVmRunSpec)

/-- 'laws.FnExactVmStep', WHERE WHAT IT READS IS OF BULK AT MOST 1048576: true; the input reads as it did. -/
def fnExactVmStepUptoRow : OpenClaim := { program := "ytfnagkpidcdocaagreat", sum := "e4124d9b9e9abb395eba4b9fffc1eda87bdf5797f5ec8b2f95db921f998c81a8", func := "loop.example/g00236/laws.FnExactVmStep", spec := "fnExactVmStep", unfollowed := true, recurses := true, loops := true, apart := false, narrowed := true }
def FnExactVmStepUptoSaid : Prop := fnExactVmStepUptoRow.holds Tryz.pinned (OpenSpec.upto fnExactVmStepSpec)

/-- 'laws.FnExactRenew', WHERE WHAT IT READS IS OF BULK AT MOST 1048576: true; the input reads as it did. -/
def fnExactRenewUptoRow : OpenClaim := { program := "ytfnagkpidcdocaagreat", sum := "e4124d9b9e9abb395eba4b9fffc1eda87bdf5797f5ec8b2f95db921f998c81a8", func := "loop.example/g00236/laws.FnExactRenew", spec := "fnExactRenew", unfollowed := true, recurses := true, loops := true, apart := false, narrowed := true }
def FnExactRenewUptoSaid : Prop := fnExactRenewUptoRow.holds Tryz.pinned (OpenSpec.upto fnExactRenewSpec)

/-- 'laws.FnExactDoWord', WHERE WHAT IT READS IS OF BULK AT MOST 1048576: true; the input reads as it did. -/
def fnExactDoWordUptoRow : OpenClaim := { program := "ytfnagkpidcdocaagreat", sum := "e4124d9b9e9abb395eba4b9fffc1eda87bdf5797f5ec8b2f95db921f998c81a8", func := "loop.example/g00236/laws.FnExactDoWord", spec := "fnExactDoWord", unfollowed := true, recurses := true, loops := true, apart := false, narrowed := true }
def FnExactDoWordUptoSaid : Prop := fnExactDoWordUptoRow.holds Tryz.pinned (OpenSpec.upto fnExactDoWordSpec)

/-- 'laws.FnExactHouseNew', WHERE WHAT IT READS IS OF BULK AT MOST 1048576: true; the input reads as it did. -/
def fnExactHouseNewUptoRow : OpenClaim := { program := "ytfnagkpidcdocaagreat", sum := "e4124d9b9e9abb395eba4b9fffc1eda87bdf5797f5ec8b2f95db921f998c81a8", func := "loop.example/g00236/laws.FnExactHouseNew", spec := "fnExactHouseNew", unfollowed := true, recurses := true, loops := true, apart := false, narrowed := true }
def FnExactHouseNewUptoSaid : Prop := fnExactHouseNewUptoRow.holds Tryz.pinned (OpenSpec.upto fnExactHouseNewSpec)

/-- 'laws.FnVmOk', WHERE WHAT IT READS IS OF BULK AT MOST 1048576: true; the input reads as it did. -/
def fnVmOkUptoRow : OpenClaim := { program := "ytfnagkpidcdocaagreat", sum := "e4124d9b9e9abb395eba4b9fffc1eda87bdf5797f5ec8b2f95db921f998c81a8", func := "loop.example/g00236/laws.FnVmOk", spec := "fnVmOk", unfollowed := true, recurses := true, apart := false, narrowed := true }
def FnVmOkUptoSaid : Prop := fnVmOkUptoRow.holds Tryz.pinned (OpenSpec.upto fnVmOkSpec)

/-- 'laws.FnRuns', WHERE WHAT IT READS IS OF BULK AT MOST 1048576: true; the input reads as it did. -/
def fnRunsUptoRow : OpenClaim := { program := "ytfnagkpidcdocaagreat", sum := "e4124d9b9e9abb395eba4b9fffc1eda87bdf5797f5ec8b2f95db921f998c81a8", func := "loop.example/g00236/laws.FnRuns", spec := "fnRuns", unfollowed := true, recurses := true, apart := false, narrowed := true }
def FnRunsUptoSaid : Prop := fnRunsUptoRow.holds Tryz.pinned (OpenSpec.upto fnRunsSpec)

/-- 'laws.FnStepped', WHERE WHAT IT READS IS OF BULK AT MOST 1048576: true; the input reads as it did. -/
def fnSteppedUptoRow : OpenClaim := { program := "ytfnagkpidcdocaagreat", sum := "e4124d9b9e9abb395eba4b9fffc1eda87bdf5797f5ec8b2f95db921f998c81a8", func := "loop.example/g00236/laws.FnStepped", spec := "fnStepped", unfollowed := true, recurses := true, apart := false, narrowed := true }
def FnSteppedUptoSaid : Prop := fnSteppedUptoRow.holds Tryz.pinned (OpenSpec.upto fnSteppedSpec)

/-- 'laws.FnCompiled', WHERE WHAT IT READS IS OF BULK AT MOST 1048576: true; the input reads as it did. -/
def fnCompiledUptoRow : OpenClaim := { program := "ytfnagkpidcdocaagreat", sum := "e4124d9b9e9abb395eba4b9fffc1eda87bdf5797f5ec8b2f95db921f998c81a8", func := "loop.example/g00236/laws.FnCompiled", spec := "fnCompiled", unfollowed := true, recurses := true, apart := false, narrowed := true }
def FnCompiledUptoSaid : Prop := fnCompiledUptoRow.holds Tryz.pinned (OpenSpec.upto fnCompiledSpec)

/-- 'laws.FnDid', WHERE WHAT IT READS IS OF BULK AT MOST 1048576: true; the input reads as it did. -/
def fnDidUptoRow : OpenClaim := { program := "ytfnagkpidcdocaagreat", sum := "e4124d9b9e9abb395eba4b9fffc1eda87bdf5797f5ec8b2f95db921f998c81a8", func := "loop.example/g00236/laws.FnDid", spec := "fnDid", unfollowed := true, recurses := true, apart := false, narrowed := true }
def FnDidUptoSaid : Prop := fnDidUptoRow.holds Tryz.pinned (OpenSpec.upto fnDidSpec)

/-- 'laws.FnRenewed', WHERE WHAT IT READS IS OF BULK AT MOST 1048576: true; the input reads as it did. -/
def fnRenewedUptoRow : OpenClaim := { program := "ytfnagkpidcdocaagreat", sum := "e4124d9b9e9abb395eba4b9fffc1eda87bdf5797f5ec8b2f95db921f998c81a8", func := "loop.example/g00236/laws.FnRenewed", spec := "fnRenewed", unfollowed := true, recurses := true, apart := false, narrowed := true }
def FnRenewedUptoSaid : Prop := fnRenewedUptoRow.holds Tryz.pinned (OpenSpec.upto fnRenewedSpec)

end Rows
end Go.Proofs.YtfnagkpidcdocaaGreat
