import Derived.Test.YtfnagkpidcdocaaGreatM12
import Derived.Test.YtfnagkpidcdocaaGreatM16
import Derived.Test.YtfnagkpidcdocaaGreatProg
import Derived.KernelRfl
set_option linter.all false
namespace T2
open Go Go.Vi Go.Proofs
set_option maxRecDepth 100000
theorem RF (f:FuncId) (vf:VF) (raw:Bool) (h:cF f=some (vf,raw)):okF Tryz.prog bB f vf=true:=by
 unfold cF at h;split at h;all_goals first | (cases h;kernel_rfl) | cases h
end T2
