import Derived.Test.YtdkaahhcejipjaaVi27
import Derived.Test.YtdkaahhcejipjaaV1
import Derived.Test.YtdkaahhcejipjaaProg
import Derived.KernelRfl
set_option linter.unusedVariables false
set_option linter.unusedSimpArgs false
namespace T1
open Go Go.Vi Go.Proofs
set_option maxRecDepth 100000
theorem ok3 : okF Try.prog vloop 3 v3 = true := by kernel_rfl
theorem ok4 : okF Try.prog vloop 4 v4 = true := by kernel_rfl
theorem ok5 : okF Try.prog vloop 5 v5 = true := by kernel_rfl
theorem ok6 : okF Try.prog vloop 6 v6 = true := by kernel_rfl
theorem ok7 : okF Try.prog vloop 7 v7 = true := by kernel_rfl
theorem ok8 : okF Try.prog vloop 8 v8 = true := by kernel_rfl
theorem ok9 : okF Try.prog vloop 9 v9 = true := by kernel_rfl
theorem ok10 : okF Try.prog vloop 10 v10 = true := by kernel_rfl
theorem ok11 : okF Try.prog vloop 11 v11 = true := by kernel_rfl
theorem ok12 : okF Try.prog vloop 12 v12 = true := by kernel_rfl
theorem ok13 : okF Try.prog vloop 13 v13 = true := by kernel_rfl
theorem ok14 : okF Try.prog vloop 14 v14 = true := by kernel_rfl
theorem ok15 : okF Try.prog vloop 15 v15 = true := by kernel_rfl
theorem ok16 : okF Try.prog vloop 16 v16 = true := by kernel_rfl
theorem ok17 : okF Try.prog vloop 17 v17 = true := by kernel_rfl
theorem ok18 : okF Try.prog vloop 18 v18 = true := by kernel_rfl
theorem ok19 : okF Try.prog vloop 19 v19 = true := by kernel_rfl
theorem ok20 : okF Try.prog vloop 20 v20 = true := by kernel_rfl
theorem ok21 : okF Try.prog vloop 21 v21 = true := by kernel_rfl
theorem ok22 : okF Try.prog vloop 22 v22 = true := by kernel_rfl
theorem ok23 : okF Try.prog vloop 23 v23 = true := by kernel_rfl
theorem ok24 : okF Try.prog vloop 24 v24 = true := by kernel_rfl
theorem ok25 : okF Try.prog vloop 25 v25 = true := by kernel_rfl
theorem ok26 : okF Try.prog vloop 26 v26 = true := by kernel_rfl
theorem ok27 : okF Try.prog vloop 27 v27 = true := by kernel_rfl
theorem ok28 : okF Try.prog vloop 28 v28 = true := by kernel_rfl
theorem ok29 : okF Try.prog vloop 29 v29 = true := by kernel_rfl
theorem ok30 : okF Try.prog vloop 30 v30 = true := by kernel_rfl
theorem ok31 : okF Try.prog vloop 31 v31 = true := by kernel_rfl
theorem ok32 : okF Try.prog vloop 32 v32 = true := by kernel_rfl
theorem ok33 : okF Try.prog vloop 33 v33 = true := by kernel_rfl
theorem ok34 : okF Try.prog vloop 34 v34 = true := by kernel_rfl
theorem ok35 : okF Try.prog vloop 35 v35 = true := by kernel_rfl
theorem ok36 : okF Try.prog vloop 36 v36 = true := by kernel_rfl
theorem ok37 : okF Try.prog vloop 37 v37 = true := by kernel_rfl
theorem ok38 : okF Try.prog vloop 38 v38 = true := by kernel_rfl
theorem ok39 : okF Try.prog vloop 39 v39 = true := by kernel_rfl
theorem ok40 : okF Try.prog vloop 40 v40 = true := by kernel_rfl
theorem ok41 : okF Try.prog vloop 41 v41 = true := by kernel_rfl
theorem ok42 : okF Try.prog vloop 42 v42 = true := by kernel_rfl
theorem ok43 : okF Try.prog vloop 43 v43 = true := by kernel_rfl
theorem ok44 : okF Try.prog vloop 44 v44 = true := by kernel_rfl
theorem ok45 : okF Try.prog vloop 45 v45 = true := by kernel_rfl
theorem ok46 : okF Try.prog vloop 46 v46 = true := by kernel_rfl
theorem ok47 : okF Try.prog vloop 47 v47 = true := by kernel_rfl
theorem ok48 : okF Try.prog vloop 48 v48 = true := by kernel_rfl
theorem ok49 : okF Try.prog vloop 49 v49 = true := by kernel_rfl
theorem ok50 : okF Try.prog vloop 50 v50 = true := by kernel_rfl
theorem ok51 : okF Try.prog vloop 51 v51 = true := by kernel_rfl
theorem ok52 : okF Try.prog vloop 52 v52 = true := by kernel_rfl
theorem ok53 : okF Try.prog vloop 53 v53 = true := by kernel_rfl
theorem ok54 : okF Try.prog vloop 54 v54 = true := by kernel_rfl
theorem ok55 : okF Try.prog vloop 55 v55 = true := by kernel_rfl
theorem ok56 : okF Try.prog vloop 56 v56 = true := by kernel_rfl
theorem ok57 : okF Try.prog vloop 57 v57 = true := by kernel_rfl
theorem ok58 : okF Try.prog vloop 58 v58 = true := by kernel_rfl
theorem ok59 : okF Try.prog vloop 59 v59 = true := by kernel_rfl
theorem ok60 : okF Try.prog vloop 60 v60 = true := by kernel_rfl
theorem ok61 : okF Try.prog vloop 61 v61 = true := by kernel_rfl
theorem ok62 : okF Try.prog vloop 62 v62 = true := by kernel_rfl
theorem ok63 : okF Try.prog vloop 63 v63 = true := by kernel_rfl
theorem ok64 : okF Try.prog vloop 64 v64 = true := by kernel_rfl
theorem ok65 : okF Try.prog vloop 65 v65 = true := by kernel_rfl
theorem ok66 : okF Try.prog vloop 66 v66 = true := by kernel_rfl
theorem ok67 : okF Try.prog vloop 67 v67 = true := by kernel_rfl
theorem ok68 : okF Try.prog vloop 68 v68 = true := by kernel_rfl
theorem ok69 : okF Try.prog vloop 69 v69 = true := by kernel_rfl
theorem ok70 : okF Try.prog vloop 70 v70 = true := by kernel_rfl
theorem ok71 : okF Try.prog vloop 71 v71 = true := by kernel_rfl
theorem ok72 : okF Try.prog vloop 72 v72 = true := by kernel_rfl
theorem ok73 : okF Try.prog vloop 73 v73 = true := by kernel_rfl
theorem ok74 : okF Try.prog vloop 74 v74 = true := by kernel_rfl
theorem ok75 : okF Try.prog vloop 75 v75 = true := by kernel_rfl
theorem ok76 : okF Try.prog vloop 76 v76 = true := by kernel_rfl
theorem ok77 : okF Try.prog vloop 77 v77 = true := by kernel_rfl
theorem ok78 : okF Try.prog vloop 78 v78 = true := by kernel_rfl
theorem ok79 : okF Try.prog vloop 79 v79 = true := by kernel_rfl
theorem ok80 : okF Try.prog vloop 80 v80 = true := by kernel_rfl
theorem ok81 : okF Try.prog vloop 81 v81 = true := by kernel_rfl
theorem ok82 : okF Try.prog vloop 82 v82 = true := by kernel_rfl
theorem ok83 : okF Try.prog vloop 83 v83 = true := by kernel_rfl
theorem ok84 : okF Try.prog vloop 84 v84 = true := by kernel_rfl
theorem ok85 : okF Try.prog vloop 85 v85 = true := by kernel_rfl
theorem ok86 : okF Try.prog vloop 86 v86 = true := by kernel_rfl
theorem ok87 : okF Try.prog vloop 87 v87 = true := by kernel_rfl
theorem ok88 : okF Try.prog vloop 88 v88 = true := by kernel_rfl
theorem ok89 : okF Try.prog vloop 89 v89 = true := by kernel_rfl
theorem ok90 : okF Try.prog vloop 90 v90 = true := by kernel_rfl
theorem ok91 : okF Try.prog vloop 91 v91 = true := by kernel_rfl
theorem ok92 : okF Try.prog vloop 92 v92 = true := by kernel_rfl
theorem ok93 : okF Try.prog vloop 93 v93 = true := by kernel_rfl
theorem ok94 : okF Try.prog vloop 94 v94 = true := by kernel_rfl
theorem ok95 : okF Try.prog vloop 95 v95 = true := by kernel_rfl
theorem ok96 : okF Try.prog vloop 96 v96 = true := by kernel_rfl
theorem ok97 : okF Try.prog vloop 97 v97 = true := by kernel_rfl
theorem ok98 : okF Try.prog vloop 98 v98 = true := by kernel_rfl
theorem ok99 : okF Try.prog vloop 99 v99 = true := by kernel_rfl
theorem ok100 : okF Try.prog vloop 100 v100 = true := by kernel_rfl
theorem ok101 : okF Try.prog vloop 101 v101 = true := by kernel_rfl
theorem ok102 : okF Try.prog vloop 102 v102 = true := by kernel_rfl
theorem ok103 : okF Try.prog vloop 103 v103 = true := by kernel_rfl
theorem ok104 : okF Try.prog vloop 104 v104 = true := by kernel_rfl
theorem ok105 : okF Try.prog vloop 105 v105 = true := by kernel_rfl
theorem ok106 : okF Try.prog vloop 106 v106 = true := by kernel_rfl
theorem ok107 : okF Try.prog vloop 107 v107 = true := by kernel_rfl
theorem ok108 : okF Try.prog vloop 108 v108 = true := by kernel_rfl
theorem ok109 : okF Try.prog vloop 109 v109 = true := by kernel_rfl
theorem ok110 : okF Try.prog vloop 110 v110 = true := by kernel_rfl
theorem ok111 : okF Try.prog vloop 111 v111 = true := by kernel_rfl
theorem ok112 : okF Try.prog vloop 112 v112 = true := by kernel_rfl
theorem ok113 : okF Try.prog vloop 113 v113 = true := by kernel_rfl
theorem ok114 : okF Try.prog vloop 114 v114 = true := by kernel_rfl
theorem ok115 : okF Try.prog vloop 115 v115 = true := by kernel_rfl
theorem ok116 : okF Try.prog vloop 116 v116 = true := by kernel_rfl
theorem ok117 : okF Try.prog vloop 117 v117 = true := by kernel_rfl
theorem ok118 : okF Try.prog vloop 118 v118 = true := by kernel_rfl
theorem ok119 : okF Try.prog vloop 119 v119 = true := by kernel_rfl
theorem ok120 : okF Try.prog vloop 120 v120 = true := by kernel_rfl
theorem ok121 : okF Try.prog vloop 121 v121 = true := by kernel_rfl
theorem ok122 : okF Try.prog vloop 122 v122 = true := by kernel_rfl
theorem ok123 : okF Try.prog vloop 123 v123 = true := by kernel_rfl
theorem ok124 : okF Try.prog vloop 124 v124 = true := by kernel_rfl
theorem ok125 : okF Try.prog vloop 125 v125 = true := by kernel_rfl
theorem ok126 : okF Try.prog vloop 126 v126 = true := by kernel_rfl
theorem ok127 : okF Try.prog vloop 127 v127 = true := by kernel_rfl
theorem ok128 : okF Try.prog vloop 128 v128 = true := by kernel_rfl
theorem hF (f : FuncId) (vf : VF) (raw : Bool) (h : vfun f = some (vf, raw)) : okF Try.prog vloop f vf = true := by
  unfold vfun at h
  split at h
  · cases h; exact ok3
  · cases h; exact ok4
  · cases h; exact ok5
  · cases h; exact ok6
  · cases h; exact ok7
  · cases h; exact ok8
  · cases h; exact ok9
  · cases h; exact ok10
  · cases h; exact ok11
  · cases h; exact ok12
  · cases h; exact ok13
  · cases h; exact ok14
  · cases h; exact ok15
  · cases h; exact ok16
  · cases h; exact ok17
  · cases h; exact ok18
  · cases h; exact ok19
  · cases h; exact ok20
  · cases h; exact ok21
  · cases h; exact ok22
  · cases h; exact ok23
  · cases h; exact ok24
  · cases h; exact ok25
  · cases h; exact ok26
  · cases h; exact ok27
  · cases h; exact ok28
  · cases h; exact ok29
  · cases h; exact ok30
  · cases h; exact ok31
  · cases h; exact ok32
  · cases h; exact ok33
  · cases h; exact ok34
  · cases h; exact ok35
  · cases h; exact ok36
  · cases h; exact ok37
  · cases h; exact ok38
  · cases h; exact ok39
  · cases h; exact ok40
  · cases h; exact ok41
  · cases h; exact ok42
  · cases h; exact ok43
  · cases h; exact ok44
  · cases h; exact ok45
  · cases h; exact ok46
  · cases h; exact ok47
  · cases h; exact ok48
  · cases h; exact ok49
  · cases h; exact ok50
  · cases h; exact ok51
  · cases h; exact ok52
  · cases h; exact ok53
  · cases h; exact ok54
  · cases h; exact ok55
  · cases h; exact ok56
  · cases h; exact ok57
  · cases h; exact ok58
  · cases h; exact ok59
  · cases h; exact ok60
  · cases h; exact ok61
  · cases h; exact ok62
  · cases h; exact ok63
  · cases h; exact ok64
  · cases h; exact ok65
  · cases h; exact ok66
  · cases h; exact ok67
  · cases h; exact ok68
  · cases h; exact ok69
  · cases h; exact ok70
  · cases h; exact ok71
  · cases h; exact ok72
  · cases h; exact ok73
  · cases h; exact ok74
  · cases h; exact ok75
  · cases h; exact ok76
  · cases h; exact ok77
  · cases h; exact ok78
  · cases h; exact ok79
  · cases h; exact ok80
  · cases h; exact ok81
  · cases h; exact ok82
  · cases h; exact ok83
  · cases h; exact ok84
  · cases h; exact ok85
  · cases h; exact ok86
  · cases h; exact ok87
  · cases h; exact ok88
  · cases h; exact ok89
  · cases h; exact ok90
  · cases h; exact ok91
  · cases h; exact ok92
  · cases h; exact ok93
  · cases h; exact ok94
  · cases h; exact ok95
  · cases h; exact ok96
  · cases h; exact ok97
  · cases h; exact ok98
  · cases h; exact ok99
  · cases h; exact ok100
  · cases h; exact ok101
  · cases h; exact ok102
  · cases h; exact ok103
  · cases h; exact ok104
  · cases h; exact ok105
  · cases h; exact ok106
  · cases h; exact ok107
  · cases h; exact ok108
  · cases h; exact ok109
  · cases h; exact ok110
  · cases h; exact ok111
  · cases h; exact ok112
  · cases h; exact ok113
  · cases h; exact ok114
  · cases h; exact ok115
  · cases h; exact ok116
  · cases h; exact ok117
  · cases h; exact ok118
  · cases h; exact ok119
  · cases h; exact ok120
  · cases h; exact ok121
  · cases h; exact ok122
  · cases h; exact ok123
  · cases h; exact ok124
  · cases h; exact ok125
  · cases h; exact ok126
  · cases h; exact ok127
  · cases h; exact ok128
  · cases h
end T1
