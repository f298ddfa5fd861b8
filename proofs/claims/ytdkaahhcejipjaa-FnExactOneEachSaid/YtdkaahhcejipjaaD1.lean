import Derived.Test.YtdkaahhcejipjaaVi30
import Derived.Test.YtdkaahhcejipjaaProg
import Derived.KernelRfl
set_option linter.unusedVariables false
set_option linter.unusedSimpArgs false
open Go Go.Vi Go.Proofs
namespace T1
set_option maxRecDepth 100000
set_option maxHeartbeats 4000000
set_option linter.constructorNameAsVariable false
set_option linter.unusedVariables false
theorem co3 : Try.prog.cellsOf 3 = 1 := by kernel_rfl
theorem co4 : Try.prog.cellsOf 4 = 1 := by kernel_rfl
theorem co9 : Try.prog.cellsOf 9 = 1 := by kernel_rfl
theorem co22 : Try.prog.cellsOf 22 = 1 := by kernel_rfl
theorem co23 : Try.prog.cellsOf 23 = 1 := by kernel_rfl
theorem co25 : Try.prog.cellsOf 25 = 7 := by kernel_rfl
theorem co27 : Try.prog.cellsOf 27 = 1 := by kernel_rfl
theorem co29 : Try.prog.cellsOf 29 = 7 := by kernel_rfl
theorem co36 : Try.prog.cellsOf 36 = 1 := by kernel_rfl
theorem co37 : Try.prog.cellsOf 37 = 1 := by kernel_rfl
theorem co38 : Try.prog.cellsOf 38 = 1 := by kernel_rfl
theorem co40 : Try.prog.cellsOf 40 = 5 := by kernel_rfl
theorem co43 : Try.prog.cellsOf 43 = 1 := by kernel_rfl
theorem co44 : Try.prog.cellsOf 44 = 1 := by kernel_rfl
theorem co45 : Try.prog.cellsOf 45 = 1 := by kernel_rfl
theorem co47 : Try.prog.cellsOf 47 = 5 := by kernel_rfl
theorem co73 : Try.prog.cellsOf 73 = 1 := by kernel_rfl
theorem co75 : Try.prog.cellsOf 75 = 4 := by kernel_rfl
theorem co77 : Try.prog.cellsOf 77 = 9 := by kernel_rfl
theorem co82 : Try.prog.cellsOf 82 = 1 := by kernel_rfl
theorem co83 : Try.prog.cellsOf 83 = 1 := by kernel_rfl
theorem co85 : Try.prog.cellsOf 85 = 2 := by kernel_rfl
theorem co91 : Try.prog.cellsOf 91 = 1 := by kernel_rfl
theorem co93 : Try.prog.cellsOf 93 = 4 := by kernel_rfl
theorem co95 : Try.prog.cellsOf 95 = 7 := by kernel_rfl
theorem co97 : Try.prog.cellsOf 97 = 7 := by kernel_rfl
theorem co106 : Try.prog.cellsOf 106 = 1 := by kernel_rfl
theorem co107 : Try.prog.cellsOf 107 = 1 := by kernel_rfl
theorem co109 : Try.prog.cellsOf 109 = 2 := by kernel_rfl
theorem co111 : Try.prog.cellsOf 111 = 7 := by kernel_rfl
theorem co114 : Try.prog.cellsOf 114 = 9 := by kernel_rfl
theorem co116 : Try.prog.cellsOf 116 = 7 := by kernel_rfl
theorem co152 : Try.prog.cellsOf 152 = 1 := by kernel_rfl
theorem co154 : Try.prog.cellsOf 154 = 4 := by kernel_rfl
theorem co157 : Try.prog.cellsOf 157 = 4 := by kernel_rfl
theorem co158 : Try.prog.cellsOf 158 = 1 := by kernel_rfl
theorem co160 : Try.prog.cellsOf 160 = 4 := by kernel_rfl
theorem co163 : Try.prog.cellsOf 163 = 4 := by kernel_rfl
theorem co172 : Try.prog.cellsOf 172 = 4 := by kernel_rfl
theorem co173 : Try.prog.cellsOf 173 = 4 := by kernel_rfl
theorem fits25 {n : Nat} {ds : List D} (h : Fits Try.prog (n + 1) 25 ds) : ∃ c0 c1 c2 c3 c4 c5 c6, ds = [c0, c1, c2, c3, c4, c5, c6] ∧ Fits Try.prog n 3 [c0] ∧ Fits Try.prog n 3 [c1] ∧ Fits Try.prog n 3 [c2] ∧ Fits Try.prog n 22 [c3] ∧ Fits Try.prog n 23 [c4] ∧ Fits Try.prog n 23 [c5] ∧ Fits Try.prog n 4 [c6] := by
  simp only [Fits, Try.underlying25] at h
  obtain ⟨h1, h2⟩ := h
  rw [co25] at h1
  obtain ⟨c0, e0, rfl, g0⟩ := len_succ h1
  obtain ⟨c1, e1, rfl, g1⟩ := len_succ g0
  obtain ⟨c2, e2, rfl, g2⟩ := len_succ g1
  obtain ⟨c3, e3, rfl, g3⟩ := len_succ g2
  obtain ⟨c4, e4, rfl, g4⟩ := len_succ g3
  obtain ⟨c5, e5, rfl, g5⟩ := len_succ g4
  obtain ⟨c6, e6, rfl, g6⟩ := len_succ g5
  obtain rfl := List.length_eq_zero_iff.1 g6
  simp [co3, co4, co22, co23] at h2
  exact ⟨c0, c1, c2, c3, c4, c5, c6, rfl, h2⟩
theorem fits29 {n : Nat} {ds : List D} (h : Fits Try.prog (n + 1) 29 ds) : ∃ c0 c1 c2 c3 c4 c5 c6, ds = [c0, c1, c2, c3, c4, c5, c6] ∧ Fits Try.prog n 3 [c0] ∧ Fits Try.prog n 3 [c1] ∧ Fits Try.prog n 3 [c2] ∧ Fits Try.prog n 27 [c3] ∧ Fits Try.prog n 23 [c4] ∧ Fits Try.prog n 23 [c5] ∧ Fits Try.prog n 4 [c6] := by
  simp only [Fits, Try.underlying29] at h
  obtain ⟨h1, h2⟩ := h
  rw [co29] at h1
  obtain ⟨c0, e0, rfl, g0⟩ := len_succ h1
  obtain ⟨c1, e1, rfl, g1⟩ := len_succ g0
  obtain ⟨c2, e2, rfl, g2⟩ := len_succ g1
  obtain ⟨c3, e3, rfl, g3⟩ := len_succ g2
  obtain ⟨c4, e4, rfl, g4⟩ := len_succ g3
  obtain ⟨c5, e5, rfl, g5⟩ := len_succ g4
  obtain ⟨c6, e6, rfl, g6⟩ := len_succ g5
  obtain rfl := List.length_eq_zero_iff.1 g6
  simp [co3, co4, co23, co27] at h2
  exact ⟨c0, c1, c2, c3, c4, c5, c6, rfl, h2⟩
theorem fits40 {n : Nat} {ds : List D} (h : Fits Try.prog (n + 1) 40 ds) : ∃ c0 c1 c2 c3 c4, ds = [c0, c1, c2, c3, c4] ∧ Fits Try.prog n 36 [c0] ∧ Fits Try.prog n 37 [c1] ∧ Fits Try.prog n 38 [c2] ∧ Fits Try.prog n 3 [c3] ∧ Fits Try.prog n 3 [c4] := by
  simp only [Fits, Try.underlying40] at h
  obtain ⟨h1, h2⟩ := h
  rw [co40] at h1
  obtain ⟨c0, e0, rfl, g0⟩ := len_succ h1
  obtain ⟨c1, e1, rfl, g1⟩ := len_succ g0
  obtain ⟨c2, e2, rfl, g2⟩ := len_succ g1
  obtain ⟨c3, e3, rfl, g3⟩ := len_succ g2
  obtain ⟨c4, e4, rfl, g4⟩ := len_succ g3
  obtain rfl := List.length_eq_zero_iff.1 g4
  simp [co3, co36, co37, co38] at h2
  exact ⟨c0, c1, c2, c3, c4, rfl, h2⟩
theorem fits47 {n : Nat} {ds : List D} (h : Fits Try.prog (n + 1) 47 ds) : ∃ c0 c1 c2 c3 c4, ds = [c0, c1, c2, c3, c4] ∧ Fits Try.prog n 43 [c0] ∧ Fits Try.prog n 44 [c1] ∧ Fits Try.prog n 45 [c2] ∧ Fits Try.prog n 3 [c3] ∧ Fits Try.prog n 3 [c4] := by
  simp only [Fits, Try.underlying47] at h
  obtain ⟨h1, h2⟩ := h
  rw [co47] at h1
  obtain ⟨c0, e0, rfl, g0⟩ := len_succ h1
  obtain ⟨c1, e1, rfl, g1⟩ := len_succ g0
  obtain ⟨c2, e2, rfl, g2⟩ := len_succ g1
  obtain ⟨c3, e3, rfl, g3⟩ := len_succ g2
  obtain ⟨c4, e4, rfl, g4⟩ := len_succ g3
  obtain rfl := List.length_eq_zero_iff.1 g4
  simp [co3, co43, co44, co45] at h2
  exact ⟨c0, c1, c2, c3, c4, rfl, h2⟩
theorem fits75 {n : Nat} {ds : List D} (h : Fits Try.prog (n + 1) 75 ds) : ∃ c0 c1 c2 c3, ds = [c0, c1, c2, c3] ∧ Fits Try.prog n 3 [c0] ∧ Fits Try.prog n 3 [c1] ∧ Fits Try.prog n 9 [c2] ∧ Fits Try.prog n 73 [c3] := by
  simp only [Fits, Try.underlying75] at h
  obtain ⟨h1, h2⟩ := h
  rw [co75] at h1
  obtain ⟨c0, e0, rfl, g0⟩ := len_succ h1
  obtain ⟨c1, e1, rfl, g1⟩ := len_succ g0
  obtain ⟨c2, e2, rfl, g2⟩ := len_succ g1
  obtain ⟨c3, e3, rfl, g3⟩ := len_succ g2
  obtain rfl := List.length_eq_zero_iff.1 g3
  simp [co3, co9, co73] at h2
  exact ⟨c0, c1, c2, c3, rfl, h2⟩
theorem fits77 {n : Nat} {ds : List D} (h : Fits Try.prog (n + 1) 77 ds) : ∃ c0 c1 c2 c3 c4 c5 c6 c7 c8, ds = [c0, c1, c2, c3, c4, c5, c6, c7, c8] ∧ Fits Try.prog n 3 [c0] ∧ Fits Try.prog n 9 [c1] ∧ Fits Try.prog n 9 [c2] ∧ Fits Try.prog n 3 [c3] ∧ Fits Try.prog n 75 [c4, c5, c6, c7] ∧ Fits Try.prog n 73 [c8] := by
  simp only [Fits, Try.underlying77] at h
  obtain ⟨h1, h2⟩ := h
  rw [co77] at h1
  obtain ⟨c0, e0, rfl, g0⟩ := len_succ h1
  obtain ⟨c1, e1, rfl, g1⟩ := len_succ g0
  obtain ⟨c2, e2, rfl, g2⟩ := len_succ g1
  obtain ⟨c3, e3, rfl, g3⟩ := len_succ g2
  obtain ⟨c4, e4, rfl, g4⟩ := len_succ g3
  obtain ⟨c5, e5, rfl, g5⟩ := len_succ g4
  obtain ⟨c6, e6, rfl, g6⟩ := len_succ g5
  obtain ⟨c7, e7, rfl, g7⟩ := len_succ g6
  obtain ⟨c8, e8, rfl, g8⟩ := len_succ g7
  obtain rfl := List.length_eq_zero_iff.1 g8
  simp [co3, co9, co73, co75] at h2
  exact ⟨c0, c1, c2, c3, c4, c5, c6, c7, c8, rfl, h2⟩
theorem fits85 {n : Nat} {ds : List D} (h : Fits Try.prog (n + 1) 85 ds) : ∃ c0 c1, ds = [c0, c1] ∧ Fits Try.prog n 82 [c0] ∧ Fits Try.prog n 83 [c1] := by
  simp only [Fits, Try.underlying85] at h
  obtain ⟨h1, h2⟩ := h
  rw [co85] at h1
  obtain ⟨c0, e0, rfl, g0⟩ := len_succ h1
  obtain ⟨c1, e1, rfl, g1⟩ := len_succ g0
  obtain rfl := List.length_eq_zero_iff.1 g1
  simp [co82, co83] at h2
  exact ⟨c0, c1, rfl, h2⟩
theorem fits93 {n : Nat} {ds : List D} (h : Fits Try.prog (n + 1) 93 ds) : ∃ c0 c1 c2 c3, ds = [c0, c1, c2, c3] ∧ Fits Try.prog n 3 [c0] ∧ Fits Try.prog n 3 [c1] ∧ Fits Try.prog n 9 [c2] ∧ Fits Try.prog n 91 [c3] := by
  simp only [Fits, Try.underlying93] at h
  obtain ⟨h1, h2⟩ := h
  rw [co93] at h1
  obtain ⟨c0, e0, rfl, g0⟩ := len_succ h1
  obtain ⟨c1, e1, rfl, g1⟩ := len_succ g0
  obtain ⟨c2, e2, rfl, g2⟩ := len_succ g1
  obtain ⟨c3, e3, rfl, g3⟩ := len_succ g2
  obtain rfl := List.length_eq_zero_iff.1 g3
  simp [co3, co9, co91] at h2
  exact ⟨c0, c1, c2, c3, rfl, h2⟩
theorem fits95 {n : Nat} {ds : List D} (h : Fits Try.prog (n + 1) 95 ds) : ∃ c0 c1 c2 c3 c4 c5 c6, ds = [c0, c1, c2, c3, c4, c5, c6] ∧ Fits Try.prog n 9 [c0] ∧ Fits Try.prog n 9 [c1] ∧ Fits Try.prog n 93 [c2, c3, c4, c5] ∧ Fits Try.prog n 3 [c6] := by
  simp only [Fits, Try.underlying95] at h
  obtain ⟨h1, h2⟩ := h
  rw [co95] at h1
  obtain ⟨c0, e0, rfl, g0⟩ := len_succ h1
  obtain ⟨c1, e1, rfl, g1⟩ := len_succ g0
  obtain ⟨c2, e2, rfl, g2⟩ := len_succ g1
  obtain ⟨c3, e3, rfl, g3⟩ := len_succ g2
  obtain ⟨c4, e4, rfl, g4⟩ := len_succ g3
  obtain ⟨c5, e5, rfl, g5⟩ := len_succ g4
  obtain ⟨c6, e6, rfl, g6⟩ := len_succ g5
  obtain rfl := List.length_eq_zero_iff.1 g6
  simp [co3, co9, co93] at h2
  exact ⟨c0, c1, c2, c3, c4, c5, c6, rfl, h2⟩
theorem fits97 {n : Nat} {ds : List D} (h : Fits Try.prog (n + 1) 97 ds) : ∃ c0 c1 c2 c3 c4 c5 c6, ds = [c0, c1, c2, c3, c4, c5, c6] ∧ Fits Try.prog n 9 [c0] ∧ Fits Try.prog n 9 [c1] ∧ Fits Try.prog n 75 [c2, c3, c4, c5] ∧ Fits Try.prog n 3 [c6] := by
  simp only [Fits, Try.underlying97] at h
  obtain ⟨h1, h2⟩ := h
  rw [co97] at h1
  obtain ⟨c0, e0, rfl, g0⟩ := len_succ h1
  obtain ⟨c1, e1, rfl, g1⟩ := len_succ g0
  obtain ⟨c2, e2, rfl, g2⟩ := len_succ g1
  obtain ⟨c3, e3, rfl, g3⟩ := len_succ g2
  obtain ⟨c4, e4, rfl, g4⟩ := len_succ g3
  obtain ⟨c5, e5, rfl, g5⟩ := len_succ g4
  obtain ⟨c6, e6, rfl, g6⟩ := len_succ g5
  obtain rfl := List.length_eq_zero_iff.1 g6
  simp [co3, co9, co75] at h2
  exact ⟨c0, c1, c2, c3, c4, c5, c6, rfl, h2⟩
theorem fits109 {n : Nat} {ds : List D} (h : Fits Try.prog (n + 1) 109 ds) : ∃ c0 c1, ds = [c0, c1] ∧ Fits Try.prog n 106 [c0] ∧ Fits Try.prog n 107 [c1] := by
  simp only [Fits, Try.underlying109] at h
  obtain ⟨h1, h2⟩ := h
  rw [co109] at h1
  obtain ⟨c0, e0, rfl, g0⟩ := len_succ h1
  obtain ⟨c1, e1, rfl, g1⟩ := len_succ g0
  obtain rfl := List.length_eq_zero_iff.1 g1
  simp [co106, co107] at h2
  exact ⟨c0, c1, rfl, h2⟩
theorem fits111 {n : Nat} {ds : List D} (h : Fits Try.prog (n + 1) 111 ds) : ∃ c0 c1 c2 c3 c4 c5 c6, ds = [c0, c1, c2, c3, c4, c5, c6] ∧ Fits Try.prog n 9 [c0] ∧ Fits Try.prog n 3 [c1] ∧ Fits Try.prog n 109 [c2, c3] ∧ Fits Try.prog n 4 [c4] ∧ Fits Try.prog n 109 [c5, c6] := by
  simp only [Fits, Try.underlying111] at h
  obtain ⟨h1, h2⟩ := h
  rw [co111] at h1
  obtain ⟨c0, e0, rfl, g0⟩ := len_succ h1
  obtain ⟨c1, e1, rfl, g1⟩ := len_succ g0
  obtain ⟨c2, e2, rfl, g2⟩ := len_succ g1
  obtain ⟨c3, e3, rfl, g3⟩ := len_succ g2
  obtain ⟨c4, e4, rfl, g4⟩ := len_succ g3
  obtain ⟨c5, e5, rfl, g5⟩ := len_succ g4
  obtain ⟨c6, e6, rfl, g6⟩ := len_succ g5
  obtain rfl := List.length_eq_zero_iff.1 g6
  simp [co3, co4, co9, co109] at h2
  exact ⟨c0, c1, c2, c3, c4, c5, c6, rfl, h2⟩
theorem fits114 {n : Nat} {ds : List D} (h : Fits Try.prog (n + 1) 114 ds) : ∃ c0 c1 c2 c3 c4 c5 c6 c7 c8, ds = [c0, c1, c2, c3, c4, c5, c6, c7, c8] ∧ Fits Try.prog n 3 [c0] ∧ Fits Try.prog n 9 [c1] ∧ Fits Try.prog n 9 [c2] ∧ Fits Try.prog n 3 [c3] ∧ Fits Try.prog n 93 [c4, c5, c6, c7] ∧ Fits Try.prog n 91 [c8] := by
  simp only [Fits, Try.underlying114] at h
  obtain ⟨h1, h2⟩ := h
  rw [co114] at h1
  obtain ⟨c0, e0, rfl, g0⟩ := len_succ h1
  obtain ⟨c1, e1, rfl, g1⟩ := len_succ g0
  obtain ⟨c2, e2, rfl, g2⟩ := len_succ g1
  obtain ⟨c3, e3, rfl, g3⟩ := len_succ g2
  obtain ⟨c4, e4, rfl, g4⟩ := len_succ g3
  obtain ⟨c5, e5, rfl, g5⟩ := len_succ g4
  obtain ⟨c6, e6, rfl, g6⟩ := len_succ g5
  obtain ⟨c7, e7, rfl, g7⟩ := len_succ g6
  obtain ⟨c8, e8, rfl, g8⟩ := len_succ g7
  obtain rfl := List.length_eq_zero_iff.1 g8
  simp [co3, co9, co91, co93] at h2
  exact ⟨c0, c1, c2, c3, c4, c5, c6, c7, c8, rfl, h2⟩
theorem fits116 {n : Nat} {ds : List D} (h : Fits Try.prog (n + 1) 116 ds) : ∃ c0 c1 c2 c3 c4 c5 c6, ds = [c0, c1, c2, c3, c4, c5, c6] ∧ Fits Try.prog n 9 [c0] ∧ Fits Try.prog n 3 [c1] ∧ Fits Try.prog n 85 [c2, c3] ∧ Fits Try.prog n 4 [c4] ∧ Fits Try.prog n 85 [c5, c6] := by
  simp only [Fits, Try.underlying116] at h
  obtain ⟨h1, h2⟩ := h
  rw [co116] at h1
  obtain ⟨c0, e0, rfl, g0⟩ := len_succ h1
  obtain ⟨c1, e1, rfl, g1⟩ := len_succ g0
  obtain ⟨c2, e2, rfl, g2⟩ := len_succ g1
  obtain ⟨c3, e3, rfl, g3⟩ := len_succ g2
  obtain ⟨c4, e4, rfl, g4⟩ := len_succ g3
  obtain ⟨c5, e5, rfl, g5⟩ := len_succ g4
  obtain ⟨c6, e6, rfl, g6⟩ := len_succ g5
  obtain rfl := List.length_eq_zero_iff.1 g6
  simp [co3, co4, co9, co85] at h2
  exact ⟨c0, c1, c2, c3, c4, c5, c6, rfl, h2⟩
theorem fits154 {n : Nat} {ds : List D} (h : Fits Try.prog (n + 1) 154 ds) : ∃ c0 c1 c2 c3, ds = [c0, c1, c2, c3] ∧ Fits Try.prog n 9 [c0] ∧ Fits Try.prog n 3 [c1] ∧ Fits Try.prog n 3 [c2] ∧ Fits Try.prog n 152 [c3] := by
  simp only [Fits, Try.underlying154] at h
  obtain ⟨h1, h2⟩ := h
  rw [co154] at h1
  obtain ⟨c0, e0, rfl, g0⟩ := len_succ h1
  obtain ⟨c1, e1, rfl, g1⟩ := len_succ g0
  obtain ⟨c2, e2, rfl, g2⟩ := len_succ g1
  obtain ⟨c3, e3, rfl, g3⟩ := len_succ g2
  obtain rfl := List.length_eq_zero_iff.1 g3
  simp [co3, co9, co152] at h2
  exact ⟨c0, c1, c2, c3, rfl, h2⟩
theorem fits157 {n : Nat} {ds : List D} (h : Fits Try.prog (n + 1) 157 ds) : ∃ c0 c1 c2 c3, ds = [c0, c1, c2, c3] ∧ Fits Try.prog n 3 [c0] ∧ Fits Try.prog n 3 [c1] ∧ Fits Try.prog n 9 [c2] ∧ Fits Try.prog n 107 [c3] := by
  simp only [Fits, Try.underlying157] at h
  obtain ⟨h1, h2⟩ := h
  rw [co157] at h1
  obtain ⟨c0, e0, rfl, g0⟩ := len_succ h1
  obtain ⟨c1, e1, rfl, g1⟩ := len_succ g0
  obtain ⟨c2, e2, rfl, g2⟩ := len_succ g1
  obtain ⟨c3, e3, rfl, g3⟩ := len_succ g2
  obtain rfl := List.length_eq_zero_iff.1 g3
  simp [co3, co9, co107] at h2
  exact ⟨c0, c1, c2, c3, rfl, h2⟩
theorem fits160 {n : Nat} {ds : List D} (h : Fits Try.prog (n + 1) 160 ds) : ∃ c0 c1 c2 c3, ds = [c0, c1, c2, c3] ∧ Fits Try.prog n 9 [c0] ∧ Fits Try.prog n 3 [c1] ∧ Fits Try.prog n 3 [c2] ∧ Fits Try.prog n 158 [c3] := by
  simp only [Fits, Try.underlying160] at h
  obtain ⟨h1, h2⟩ := h
  rw [co160] at h1
  obtain ⟨c0, e0, rfl, g0⟩ := len_succ h1
  obtain ⟨c1, e1, rfl, g1⟩ := len_succ g0
  obtain ⟨c2, e2, rfl, g2⟩ := len_succ g1
  obtain ⟨c3, e3, rfl, g3⟩ := len_succ g2
  obtain rfl := List.length_eq_zero_iff.1 g3
  simp [co3, co9, co158] at h2
  exact ⟨c0, c1, c2, c3, rfl, h2⟩
theorem fits163 {n : Nat} {ds : List D} (h : Fits Try.prog (n + 1) 163 ds) : ∃ c0 c1 c2 c3, ds = [c0, c1, c2, c3] ∧ Fits Try.prog n 3 [c0] ∧ Fits Try.prog n 3 [c1] ∧ Fits Try.prog n 9 [c2] ∧ Fits Try.prog n 83 [c3] := by
  simp only [Fits, Try.underlying163] at h
  obtain ⟨h1, h2⟩ := h
  rw [co163] at h1
  obtain ⟨c0, e0, rfl, g0⟩ := len_succ h1
  obtain ⟨c1, e1, rfl, g1⟩ := len_succ g0
  obtain ⟨c2, e2, rfl, g2⟩ := len_succ g1
  obtain ⟨c3, e3, rfl, g3⟩ := len_succ g2
  obtain rfl := List.length_eq_zero_iff.1 g3
  simp [co3, co9, co83] at h2
  exact ⟨c0, c1, c2, c3, rfl, h2⟩
theorem fits172 {n : Nat} {ds : List D} (h : Fits Try.prog (n + 1) 172 ds) : ∃ c0 c1 c2 c3, ds = [c0, c1, c2, c3] ∧ Fits Try.prog n 3 [c0] ∧ Fits Try.prog n 3 [c1] ∧ Fits Try.prog n 9 [c2] ∧ Fits Try.prog n 3 [c3] := by
  simp only [Fits, Try.underlying172] at h
  obtain ⟨h1, h2⟩ := h
  rw [co172] at h1
  obtain ⟨c0, e0, rfl, g0⟩ := len_succ h1
  obtain ⟨c1, e1, rfl, g1⟩ := len_succ g0
  obtain ⟨c2, e2, rfl, g2⟩ := len_succ g1
  obtain ⟨c3, e3, rfl, g3⟩ := len_succ g2
  obtain rfl := List.length_eq_zero_iff.1 g3
  simp [co3, co9] at h2
  exact ⟨c0, c1, c2, c3, rfl, h2⟩
theorem fits173 {n : Nat} {ds : List D} (h : Fits Try.prog (n + 1) 173 ds) : ∃ c0 c1 c2 c3, ds = [c0, c1, c2, c3] ∧ Fits Try.prog n 3 [c0] ∧ Fits Try.prog n 3 [c1] ∧ Fits Try.prog n 9 [c2] ∧ Fits Try.prog n 3 [c3] := by
  simp only [Fits, Try.underlying173] at h
  obtain ⟨h1, h2⟩ := h
  rw [co173] at h1
  obtain ⟨c0, e0, rfl, g0⟩ := len_succ h1
  obtain ⟨c1, e1, rfl, g1⟩ := len_succ g0
  obtain ⟨c2, e2, rfl, g2⟩ := len_succ g1
  obtain ⟨c3, e3, rfl, g3⟩ := len_succ g2
  obtain rfl := List.length_eq_zero_iff.1 g3
  simp [co3, co9] at h2
  exact ⟨c0, c1, c2, c3, rfl, h2⟩
end T1
