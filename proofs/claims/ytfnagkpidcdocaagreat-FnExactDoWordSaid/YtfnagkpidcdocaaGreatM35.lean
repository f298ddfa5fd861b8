import Derived.Test.YtfnagkpidcdocaaGreatM16
import Derived.Test.YtfnagkpidcdocaaGreatProg
import Derived.KernelRfl
set_option linter.all false
namespace T2
open Go Go.Vi Go.Proofs
set_option maxRecDepth 100000
theorem VY (f:FuncId) (vf:VF) (raw:Bool) (h:cu f=some (vf,raw)):okF Tryz.prog bw f vf=true:=by
 unfold cu at h;split at h
 ·rename_i x e;unfold Oj at e;split at e;all_goals first | (cases e;cases h;kernel_rfl) | cases e
 split at h
 ·rename_i x e;unfold Ol at e;split at e;all_goals first | (cases e;cases h;kernel_rfl) | cases e
 split at h
 ·rename_i x e;unfold Om at e;split at e;all_goals first | (cases e;cases h;kernel_rfl) | cases e
 split at h
 ·rename_i x e;unfold Ot at e;split at e;all_goals first | (cases e;cases h;kernel_rfl) | cases e
 split at h
 ·rename_i x e;unfold Ou at e;split at e;all_goals first | (cases e;cases h;kernel_rfl) | cases e
 unfold Ov at h;split at h;all_goals first | (cases h;kernel_rfl) | cases h
end T2
