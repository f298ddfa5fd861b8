import Derived.Test.YtdkaahhcejipjaaOVi27
import Derived.Test.YtdkaahhcejipjaaOV1
import Derived.Test.YtdkaahhcejipjaaProg
import Derived.KernelRfl
set_option linter.unusedVariables false
set_option linter.unusedSimpArgs false
set_option linter.unnecessarySimpa false
set_option linter.unusedSectionVars false
namespace T1
open Go Go.Vi Go.Proofs
set_option maxRecDepth 100000
theorem ok3 : okF Try.prog vloop 3 v3 = true := by kernel_rfl
theorem ok9 : okF Try.prog vloop 9 v9 = true := by kernel_rfl
theorem ok10 : okF Try.prog vloop 10 v10 = true := by kernel_rfl
theorem ok11 : okF Try.prog vloop 11 v11 = true := by kernel_rfl
theorem ok12 : okF Try.prog vloop 12 v12 = true := by kernel_rfl
theorem ok13 : okF Try.prog vloop 13 v13 = true := by kernel_rfl
theorem ok14 : okF Try.prog vloop 14 v14 = true := by kernel_rfl
theorem ok15 : okF Try.prog vloop 15 v15 = true := by kernel_rfl
theorem ok29 : okF Try.prog vloop 29 v29 = true := by kernel_rfl
theorem ok30 : okF Try.prog vloop 30 v30 = true := by kernel_rfl
theorem ok31 : okF Try.prog vloop 31 v31 = true := by kernel_rfl
theorem ok32 : okF Try.prog vloop 32 v32 = true := by kernel_rfl
theorem ok33 : okF Try.prog vloop 33 v33 = true := by kernel_rfl
theorem ok34 : okF Try.prog vloop 34 v34 = true := by kernel_rfl
theorem ok35 : okF Try.prog vloop 35 v35 = true := by kernel_rfl
theorem ok36 : okF Try.prog vloop 36 v36 = true := by kernel_rfl
theorem ok37 : okF Try.prog vloop 37 v37 = true := by kernel_rfl
theorem ok38 : okF Try.prog vloop 38 v38 = true := by kernel_rfl
theorem ok39 : okF Try.prog vloop 39 v39 = true := by kernel_rfl
theorem ok40 : okF Try.prog vloop 40 v40 = true := by kernel_rfl
theorem ok41 : okF Try.prog vloop 41 v41 = true := by kernel_rfl
theorem ok42 : okF Try.prog vloop 42 v42 = true := by kernel_rfl
theorem ok43 : okF Try.prog vloop 43 v43 = true := by kernel_rfl
theorem ok44 : okF Try.prog vloop 44 v44 = true := by kernel_rfl
theorem ok45 : okF Try.prog vloop 45 v45 = true := by kernel_rfl
theorem ok61 : okF Try.prog vloop 61 v61 = true := by kernel_rfl
theorem ok62 : okF Try.prog vloop 62 v62 = true := by kernel_rfl
theorem ok63 : okF Try.prog vloop 63 v63 = true := by kernel_rfl
theorem ok64 : okF Try.prog vloop 64 v64 = true := by kernel_rfl
theorem ok65 : okF Try.prog vloop 65 v65 = true := by kernel_rfl
theorem ok66 : okF Try.prog vloop 66 v66 = true := by kernel_rfl
theorem ok67 : okF Try.prog vloop 67 v67 = true := by kernel_rfl
theorem ok68 : okF Try.prog vloop 68 v68 = true := by kernel_rfl
theorem ok69 : okF Try.prog vloop 69 v69 = true := by kernel_rfl
theorem ok70 : okF Try.prog vloop 70 v70 = true := by kernel_rfl
theorem ok71 : okF Try.prog vloop 71 v71 = true := by kernel_rfl
theorem ok72 : okF Try.prog vloop 72 v72 = true := by kernel_rfl
theorem ok83 : okF Try.prog vloop 83 v83 = true := by kernel_rfl
theorem ok84 : okF Try.prog vloop 84 v84 = true := by kernel_rfl
theorem ok85 : okF Try.prog vloop 85 v85 = true := by kernel_rfl
theorem ok86 : okF Try.prog vloop 86 v86 = true := by kernel_rfl
theorem ok87 : okF Try.prog vloop 87 v87 = true := by kernel_rfl
theorem ok88 : okF Try.prog vloop 88 v88 = true := by kernel_rfl
theorem ok89 : okF Try.prog vloop 89 v89 = true := by kernel_rfl
theorem ok90 : okF Try.prog vloop 90 v90 = true := by kernel_rfl
theorem ok91 : okF Try.prog vloop 91 v91 = true := by kernel_rfl
theorem ok92 : okF Try.prog vloop 92 v92 = true := by kernel_rfl
theorem ok93 : okF Try.prog vloop 93 v93 = true := by kernel_rfl
theorem ok95 : okF Try.prog vloop 95 v95 = true := by kernel_rfl
theorem ok97 : okF Try.prog vloop 97 v97 = true := by kernel_rfl
theorem ok99 : okF Try.prog vloop 99 v99 = true := by kernel_rfl
theorem ok102 : okF Try.prog vloop 102 v102 = true := by kernel_rfl
theorem ok103 : okF Try.prog vloop 103 v103 = true := by kernel_rfl
theorem ok104 : okF Try.prog vloop 104 v104 = true := by kernel_rfl
theorem ok105 : okF Try.prog vloop 105 v105 = true := by kernel_rfl
theorem ok106 : okF Try.prog vloop 106 v106 = true := by kernel_rfl
theorem ok107 : okF Try.prog vloop 107 v107 = true := by kernel_rfl
theorem ok114 : okF Try.prog vloop 114 v114 = true := by kernel_rfl
theorem ok115 : okF Try.prog vloop 115 v115 = true := by kernel_rfl
theorem ok116 : okF Try.prog vloop 116 v116 = true := by kernel_rfl
theorem hF (f : FuncId) (vf : VF) (raw : Bool) (h : vfun f = some (vf, raw)) : okF Try.prog vloop f vf = true := by
  unfold vfun at h
  split at h
  · cases h; exact ok3
  · cases h; exact ok9
  · cases h; exact ok10
  · cases h; exact ok11
  · cases h; exact ok12
  · cases h; exact ok13
  · cases h; exact ok14
  · cases h; exact ok15
  · cases h; exact ok29
  · cases h; exact ok30
  · cases h; exact ok31
  · cases h; exact ok32
  · cases h; exact ok33
  · cases h; exact ok34
  · cases h; exact ok35
  · cases h; exact ok36
  · cases h; exact ok37
  · cases h; exact ok38
  · cases h; exact ok39
  · cases h; exact ok40
  · cases h; exact ok41
  · cases h; exact ok42
  · cases h; exact ok43
  · cases h; exact ok44
  · cases h; exact ok45
  · cases h; exact ok61
  · cases h; exact ok62
  · cases h; exact ok63
  · cases h; exact ok64
  · cases h; exact ok65
  · cases h; exact ok66
  · cases h; exact ok67
  · cases h; exact ok68
  · cases h; exact ok69
  · cases h; exact ok70
  · cases h; exact ok71
  · cases h; exact ok72
  · cases h; exact ok83
  · cases h; exact ok84
  · cases h; exact ok85
  · cases h; exact ok86
  · cases h; exact ok87
  · cases h; exact ok88
  · cases h; exact ok89
  · cases h; exact ok90
  · cases h; exact ok91
  · cases h; exact ok92
  · cases h; exact ok93
  · cases h; exact ok95
  · cases h; exact ok97
  · cases h; exact ok99
  · cases h; exact ok102
  · cases h; exact ok103
  · cases h; exact ok104
  · cases h; exact ok105
  · cases h; exact ok106
  · cases h; exact ok107
  · cases h; exact ok114
  · cases h; exact ok115
  · cases h; exact ok116
  · cases h
end T1
