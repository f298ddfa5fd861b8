import Derived.Test.YtfnagkpidcdocaaGreatM11
import Derived.Test.YtfnagkpidcdocaaGreatM15
import Derived.Test.YtfnagkpidcdocaaGreatProg
import Derived.KernelRfl
set_option linter.all false
namespace T2
open Go Go.Vi Go.Proofs
set_option maxRecDepth 100000
theorem hF (f:FuncId) (vf:VF) (raw:Bool) (h:cF f=some (vf,raw)):okF Tryz.prog bE f vf=true:=by
 unfold cF at h;split at h;all_goals first | (cases h;kernel_rfl) | cases h
end T2
