import Derived.Test.YtdkaahhcejipjaaOVi33
import Derived.Test.YtdkaahhcejipjaaProg
import Derived.KernelRfl
set_option linter.unusedVariables false
set_option linter.unusedSimpArgs false
set_option linter.unnecessarySimpa false
set_option linter.unusedSectionVars false
open Go Go.Vi Go.Proofs
namespace T1
set_option maxRecDepth 100000
set_option maxHeartbeats 4000000
set_option linter.constructorNameAsVariable false
set_option linter.unusedVariables false
theorem co3 : Try.prog.cellsOf 3 = 1 := by kernel_rfl
theorem co4 : Try.prog.cellsOf 4 = 1 := by kernel_rfl
theorem co9 : Try.prog.cellsOf 9 = 1 := by kernel_rfl
theorem co22 : Try.prog.cellsOf 22 = 1 := by kernel_rfl
theorem co23 : Try.prog.cellsOf 23 = 1 := by kernel_rfl
theorem co25 : Try.prog.cellsOf 25 = 7 := by kernel_rfl
theorem co27 : Try.prog.cellsOf 27 = 1 := by kernel_rfl
theorem co29 : Try.prog.cellsOf 29 = 7 := by kernel_rfl
theorem co73 : Try.prog.cellsOf 73 = 1 := by kernel_rfl
theorem co75 : Try.prog.cellsOf 75 = 4 := by kernel_rfl
theorem co91 : Try.prog.cellsOf 91 = 1 := by kernel_rfl
theorem co93 : Try.prog.cellsOf 93 = 4 := by kernel_rfl
theorem co95 : Try.prog.cellsOf 95 = 7 := by kernel_rfl
theorem co97 : Try.prog.cellsOf 97 = 7 := by kernel_rfl
theorem fits25 {n : Nat} {ds : List D} (h : Fits Try.prog (n + 1) 25 ds) : ∃ c0 c1 c2 c3 c4 c5 c6, ds = [c0, c1, c2, c3, c4, c5, c6] ∧ Fits Try.prog n 3 [c0] ∧ Fits Try.prog n 3 [c1] ∧ Fits Try.prog n 3 [c2] ∧ Fits Try.prog n 22 [c3] ∧ Fits Try.prog n 23 [c4] ∧ Fits Try.prog n 23 [c5] ∧ Fits Try.prog n 4 [c6] := by
  simp only [Fits, Try.underlying25] at h
  obtain ⟨h1, h2⟩ := h
  rw [co25] at h1
  obtain ⟨c0, e0, rfl, g0⟩ := len_succ h1
  obtain ⟨c1, e1, rfl, g1⟩ := len_succ g0
  obtain ⟨c2, e2, rfl, g2⟩ := len_succ g1
  obtain ⟨c3, e3, rfl, g3⟩ := len_succ g2
  obtain ⟨c4, e4, rfl, g4⟩ := len_succ g3
  obtain ⟨c5, e5, rfl, g5⟩ := len_succ g4
  obtain ⟨c6, e6, rfl, g6⟩ := len_succ g5
  obtain rfl := List.length_eq_zero_iff.1 g6
  simp [co3, co4, co22, co23] at h2
  exact ⟨c0, c1, c2, c3, c4, c5, c6, rfl, h2⟩
theorem own25 {n : Nat} {ds : List D} (h : Own Try.prog (n + 1) 25 ds) : ∃ c0 c1 c2 c3 c4 c5 c6, ds = [c0, c1, c2, c3, c4, c5, c6] ∧ Own Try.prog n 3 [c0] ∧ Own Try.prog n 3 [c1] ∧ Own Try.prog n 3 [c2] ∧ Own Try.prog n 22 [c3] ∧ Own Try.prog n 23 [c4] ∧ Own Try.prog n 23 [c5] ∧ Own Try.prog n 4 [c6] := by
  simp only [Own, Try.underlying25] at h
  obtain ⟨h1, h2⟩ := h
  rw [co25] at h1
  obtain ⟨c0, e0, rfl, g0⟩ := len_succ h1
  obtain ⟨c1, e1, rfl, g1⟩ := len_succ g0
  obtain ⟨c2, e2, rfl, g2⟩ := len_succ g1
  obtain ⟨c3, e3, rfl, g3⟩ := len_succ g2
  obtain ⟨c4, e4, rfl, g4⟩ := len_succ g3
  obtain ⟨c5, e5, rfl, g5⟩ := len_succ g4
  obtain ⟨c6, e6, rfl, g6⟩ := len_succ g5
  obtain rfl := List.length_eq_zero_iff.1 g6
  simp [co3, co4, co22, co23] at h2
  exact ⟨c0, c1, c2, c3, c4, c5, c6, rfl, h2⟩
theorem mkown25 {n : Nat} {c0 c1 c2 c3 c4 c5 c6 : D} (h : Own Try.prog n 3 [c0] ∧ Own Try.prog n 3 [c1] ∧ Own Try.prog n 3 [c2] ∧ Own Try.prog n 22 [c3] ∧ Own Try.prog n 23 [c4] ∧ Own Try.prog n 23 [c5] ∧ Own Try.prog n 4 [c6]) : Own Try.prog (n + 1) 25 [c0, c1, c2, c3, c4, c5, c6] := by
  refine mk_own_struct Try.underlying25 (by rw [co25]; rfl) ?_
  simp [co3, co4, co22, co23]
  exact h
theorem mkfits25 {n : Nat} {c0 c1 c2 c3 c4 c5 c6 : D} (h : Fits Try.prog n 3 [c0] ∧ Fits Try.prog n 3 [c1] ∧ Fits Try.prog n 3 [c2] ∧ Fits Try.prog n 22 [c3] ∧ Fits Try.prog n 23 [c4] ∧ Fits Try.prog n 23 [c5] ∧ Fits Try.prog n 4 [c6]) : Fits Try.prog (n + 1) 25 [c0, c1, c2, c3, c4, c5, c6] := by
  refine mk_fits_struct Try.underlying25 (by rw [co25]; rfl) ?_
  simp [co3, co4, co22, co23]
  exact h
theorem fits29 {n : Nat} {ds : List D} (h : Fits Try.prog (n + 1) 29 ds) : ∃ c0 c1 c2 c3 c4 c5 c6, ds = [c0, c1, c2, c3, c4, c5, c6] ∧ Fits Try.prog n 3 [c0] ∧ Fits Try.prog n 3 [c1] ∧ Fits Try.prog n 3 [c2] ∧ Fits Try.prog n 27 [c3] ∧ Fits Try.prog n 23 [c4] ∧ Fits Try.prog n 23 [c5] ∧ Fits Try.prog n 4 [c6] := by
  simp only [Fits, Try.underlying29] at h
  obtain ⟨h1, h2⟩ := h
  rw [co29] at h1
  obtain ⟨c0, e0, rfl, g0⟩ := len_succ h1
  obtain ⟨c1, e1, rfl, g1⟩ := len_succ g0
  obtain ⟨c2, e2, rfl, g2⟩ := len_succ g1
  obtain ⟨c3, e3, rfl, g3⟩ := len_succ g2
  obtain ⟨c4, e4, rfl, g4⟩ := len_succ g3
  obtain ⟨c5, e5, rfl, g5⟩ := len_succ g4
  obtain ⟨c6, e6, rfl, g6⟩ := len_succ g5
  obtain rfl := List.length_eq_zero_iff.1 g6
  simp [co3, co4, co23, co27] at h2
  exact ⟨c0, c1, c2, c3, c4, c5, c6, rfl, h2⟩
theorem own29 {n : Nat} {ds : List D} (h : Own Try.prog (n + 1) 29 ds) : ∃ c0 c1 c2 c3 c4 c5 c6, ds = [c0, c1, c2, c3, c4, c5, c6] ∧ Own Try.prog n 3 [c0] ∧ Own Try.prog n 3 [c1] ∧ Own Try.prog n 3 [c2] ∧ Own Try.prog n 27 [c3] ∧ Own Try.prog n 23 [c4] ∧ Own Try.prog n 23 [c5] ∧ Own Try.prog n 4 [c6] := by
  simp only [Own, Try.underlying29] at h
  obtain ⟨h1, h2⟩ := h
  rw [co29] at h1
  obtain ⟨c0, e0, rfl, g0⟩ := len_succ h1
  obtain ⟨c1, e1, rfl, g1⟩ := len_succ g0
  obtain ⟨c2, e2, rfl, g2⟩ := len_succ g1
  obtain ⟨c3, e3, rfl, g3⟩ := len_succ g2
  obtain ⟨c4, e4, rfl, g4⟩ := len_succ g3
  obtain ⟨c5, e5, rfl, g5⟩ := len_succ g4
  obtain ⟨c6, e6, rfl, g6⟩ := len_succ g5
  obtain rfl := List.length_eq_zero_iff.1 g6
  simp [co3, co4, co23, co27] at h2
  exact ⟨c0, c1, c2, c3, c4, c5, c6, rfl, h2⟩
theorem mkown29 {n : Nat} {c0 c1 c2 c3 c4 c5 c6 : D} (h : Own Try.prog n 3 [c0] ∧ Own Try.prog n 3 [c1] ∧ Own Try.prog n 3 [c2] ∧ Own Try.prog n 27 [c3] ∧ Own Try.prog n 23 [c4] ∧ Own Try.prog n 23 [c5] ∧ Own Try.prog n 4 [c6]) : Own Try.prog (n + 1) 29 [c0, c1, c2, c3, c4, c5, c6] := by
  refine mk_own_struct Try.underlying29 (by rw [co29]; rfl) ?_
  simp [co3, co4, co23, co27]
  exact h
theorem mkfits29 {n : Nat} {c0 c1 c2 c3 c4 c5 c6 : D} (h : Fits Try.prog n 3 [c0] ∧ Fits Try.prog n 3 [c1] ∧ Fits Try.prog n 3 [c2] ∧ Fits Try.prog n 27 [c3] ∧ Fits Try.prog n 23 [c4] ∧ Fits Try.prog n 23 [c5] ∧ Fits Try.prog n 4 [c6]) : Fits Try.prog (n + 1) 29 [c0, c1, c2, c3, c4, c5, c6] := by
  refine mk_fits_struct Try.underlying29 (by rw [co29]; rfl) ?_
  simp [co3, co4, co23, co27]
  exact h
theorem fits75 {n : Nat} {ds : List D} (h : Fits Try.prog (n + 1) 75 ds) : ∃ c0 c1 c2 c3, ds = [c0, c1, c2, c3] ∧ Fits Try.prog n 3 [c0] ∧ Fits Try.prog n 3 [c1] ∧ Fits Try.prog n 9 [c2] ∧ Fits Try.prog n 73 [c3] := by
  simp only [Fits, Try.underlying75] at h
  obtain ⟨h1, h2⟩ := h
  rw [co75] at h1
  obtain ⟨c0, e0, rfl, g0⟩ := len_succ h1
  obtain ⟨c1, e1, rfl, g1⟩ := len_succ g0
  obtain ⟨c2, e2, rfl, g2⟩ := len_succ g1
  obtain ⟨c3, e3, rfl, g3⟩ := len_succ g2
  obtain rfl := List.length_eq_zero_iff.1 g3
  simp [co3, co9, co73] at h2
  exact ⟨c0, c1, c2, c3, rfl, h2⟩
theorem own75 {n : Nat} {ds : List D} (h : Own Try.prog (n + 1) 75 ds) : ∃ c0 c1 c2 c3, ds = [c0, c1, c2, c3] ∧ Own Try.prog n 3 [c0] ∧ Own Try.prog n 3 [c1] ∧ Own Try.prog n 9 [c2] ∧ Own Try.prog n 73 [c3] := by
  simp only [Own, Try.underlying75] at h
  obtain ⟨h1, h2⟩ := h
  rw [co75] at h1
  obtain ⟨c0, e0, rfl, g0⟩ := len_succ h1
  obtain ⟨c1, e1, rfl, g1⟩ := len_succ g0
  obtain ⟨c2, e2, rfl, g2⟩ := len_succ g1
  obtain ⟨c3, e3, rfl, g3⟩ := len_succ g2
  obtain rfl := List.length_eq_zero_iff.1 g3
  simp [co3, co9, co73] at h2
  exact ⟨c0, c1, c2, c3, rfl, h2⟩
theorem mkown75 {n : Nat} {c0 c1 c2 c3 : D} (h : Own Try.prog n 3 [c0] ∧ Own Try.prog n 3 [c1] ∧ Own Try.prog n 9 [c2] ∧ Own Try.prog n 73 [c3]) : Own Try.prog (n + 1) 75 [c0, c1, c2, c3] := by
  refine mk_own_struct Try.underlying75 (by rw [co75]; rfl) ?_
  simp [co3, co9, co73]
  exact h
theorem mkfits75 {n : Nat} {c0 c1 c2 c3 : D} (h : Fits Try.prog n 3 [c0] ∧ Fits Try.prog n 3 [c1] ∧ Fits Try.prog n 9 [c2] ∧ Fits Try.prog n 73 [c3]) : Fits Try.prog (n + 1) 75 [c0, c1, c2, c3] := by
  refine mk_fits_struct Try.underlying75 (by rw [co75]; rfl) ?_
  simp [co3, co9, co73]
  exact h
theorem fits93 {n : Nat} {ds : List D} (h : Fits Try.prog (n + 1) 93 ds) : ∃ c0 c1 c2 c3, ds = [c0, c1, c2, c3] ∧ Fits Try.prog n 3 [c0] ∧ Fits Try.prog n 3 [c1] ∧ Fits Try.prog n 9 [c2] ∧ Fits Try.prog n 91 [c3] := by
  simp only [Fits, Try.underlying93] at h
  obtain ⟨h1, h2⟩ := h
  rw [co93] at h1
  obtain ⟨c0, e0, rfl, g0⟩ := len_succ h1
  obtain ⟨c1, e1, rfl, g1⟩ := len_succ g0
  obtain ⟨c2, e2, rfl, g2⟩ := len_succ g1
  obtain ⟨c3, e3, rfl, g3⟩ := len_succ g2
  obtain rfl := List.length_eq_zero_iff.1 g3
  simp [co3, co9, co91] at h2
  exact ⟨c0, c1, c2, c3, rfl, h2⟩
theorem own93 {n : Nat} {ds : List D} (h : Own Try.prog (n + 1) 93 ds) : ∃ c0 c1 c2 c3, ds = [c0, c1, c2, c3] ∧ Own Try.prog n 3 [c0] ∧ Own Try.prog n 3 [c1] ∧ Own Try.prog n 9 [c2] ∧ Own Try.prog n 91 [c3] := by
  simp only [Own, Try.underlying93] at h
  obtain ⟨h1, h2⟩ := h
  rw [co93] at h1
  obtain ⟨c0, e0, rfl, g0⟩ := len_succ h1
  obtain ⟨c1, e1, rfl, g1⟩ := len_succ g0
  obtain ⟨c2, e2, rfl, g2⟩ := len_succ g1
  obtain ⟨c3, e3, rfl, g3⟩ := len_succ g2
  obtain rfl := List.length_eq_zero_iff.1 g3
  simp [co3, co9, co91] at h2
  exact ⟨c0, c1, c2, c3, rfl, h2⟩
theorem mkown93 {n : Nat} {c0 c1 c2 c3 : D} (h : Own Try.prog n 3 [c0] ∧ Own Try.prog n 3 [c1] ∧ Own Try.prog n 9 [c2] ∧ Own Try.prog n 91 [c3]) : Own Try.prog (n + 1) 93 [c0, c1, c2, c3] := by
  refine mk_own_struct Try.underlying93 (by rw [co93]; rfl) ?_
  simp [co3, co9, co91]
  exact h
theorem mkfits93 {n : Nat} {c0 c1 c2 c3 : D} (h : Fits Try.prog n 3 [c0] ∧ Fits Try.prog n 3 [c1] ∧ Fits Try.prog n 9 [c2] ∧ Fits Try.prog n 91 [c3]) : Fits Try.prog (n + 1) 93 [c0, c1, c2, c3] := by
  refine mk_fits_struct Try.underlying93 (by rw [co93]; rfl) ?_
  simp [co3, co9, co91]
  exact h
theorem fits95 {n : Nat} {ds : List D} (h : Fits Try.prog (n + 1) 95 ds) : ∃ c0 c1 c2 c3 c4 c5 c6, ds = [c0, c1, c2, c3, c4, c5, c6] ∧ Fits Try.prog n 9 [c0] ∧ Fits Try.prog n 9 [c1] ∧ Fits Try.prog n 93 [c2, c3, c4, c5] ∧ Fits Try.prog n 3 [c6] := by
  simp only [Fits, Try.underlying95] at h
  obtain ⟨h1, h2⟩ := h
  rw [co95] at h1
  obtain ⟨c0, e0, rfl, g0⟩ := len_succ h1
  obtain ⟨c1, e1, rfl, g1⟩ := len_succ g0
  obtain ⟨c2, e2, rfl, g2⟩ := len_succ g1
  obtain ⟨c3, e3, rfl, g3⟩ := len_succ g2
  obtain ⟨c4, e4, rfl, g4⟩ := len_succ g3
  obtain ⟨c5, e5, rfl, g5⟩ := len_succ g4
  obtain ⟨c6, e6, rfl, g6⟩ := len_succ g5
  obtain rfl := List.length_eq_zero_iff.1 g6
  simp [co3, co9, co93] at h2
  exact ⟨c0, c1, c2, c3, c4, c5, c6, rfl, h2⟩
theorem own95 {n : Nat} {ds : List D} (h : Own Try.prog (n + 1) 95 ds) : ∃ c0 c1 c2 c3 c4 c5 c6, ds = [c0, c1, c2, c3, c4, c5, c6] ∧ Own Try.prog n 9 [c0] ∧ Own Try.prog n 9 [c1] ∧ Own Try.prog n 93 [c2, c3, c4, c5] ∧ Own Try.prog n 3 [c6] := by
  simp only [Own, Try.underlying95] at h
  obtain ⟨h1, h2⟩ := h
  rw [co95] at h1
  obtain ⟨c0, e0, rfl, g0⟩ := len_succ h1
  obtain ⟨c1, e1, rfl, g1⟩ := len_succ g0
  obtain ⟨c2, e2, rfl, g2⟩ := len_succ g1
  obtain ⟨c3, e3, rfl, g3⟩ := len_succ g2
  obtain ⟨c4, e4, rfl, g4⟩ := len_succ g3
  obtain ⟨c5, e5, rfl, g5⟩ := len_succ g4
  obtain ⟨c6, e6, rfl, g6⟩ := len_succ g5
  obtain rfl := List.length_eq_zero_iff.1 g6
  simp [co3, co9, co93] at h2
  exact ⟨c0, c1, c2, c3, c4, c5, c6, rfl, h2⟩
theorem mkown95 {n : Nat} {c0 c1 c2 c3 c4 c5 c6 : D} (h : Own Try.prog n 9 [c0] ∧ Own Try.prog n 9 [c1] ∧ Own Try.prog n 93 [c2, c3, c4, c5] ∧ Own Try.prog n 3 [c6]) : Own Try.prog (n + 1) 95 [c0, c1, c2, c3, c4, c5, c6] := by
  refine mk_own_struct Try.underlying95 (by rw [co95]; rfl) ?_
  simp [co3, co9, co93]
  exact h
theorem mkfits95 {n : Nat} {c0 c1 c2 c3 c4 c5 c6 : D} (h : Fits Try.prog n 9 [c0] ∧ Fits Try.prog n 9 [c1] ∧ Fits Try.prog n 93 [c2, c3, c4, c5] ∧ Fits Try.prog n 3 [c6]) : Fits Try.prog (n + 1) 95 [c0, c1, c2, c3, c4, c5, c6] := by
  refine mk_fits_struct Try.underlying95 (by rw [co95]; rfl) ?_
  simp [co3, co9, co93]
  exact h
theorem fits97 {n : Nat} {ds : List D} (h : Fits Try.prog (n + 1) 97 ds) : ∃ c0 c1 c2 c3 c4 c5 c6, ds = [c0, c1, c2, c3, c4, c5, c6] ∧ Fits Try.prog n 9 [c0] ∧ Fits Try.prog n 9 [c1] ∧ Fits Try.prog n 75 [c2, c3, c4, c5] ∧ Fits Try.prog n 3 [c6] := by
  simp only [Fits, Try.underlying97] at h
  obtain ⟨h1, h2⟩ := h
  rw [co97] at h1
  obtain ⟨c0, e0, rfl, g0⟩ := len_succ h1
  obtain ⟨c1, e1, rfl, g1⟩ := len_succ g0
  obtain ⟨c2, e2, rfl, g2⟩ := len_succ g1
  obtain ⟨c3, e3, rfl, g3⟩ := len_succ g2
  obtain ⟨c4, e4, rfl, g4⟩ := len_succ g3
  obtain ⟨c5, e5, rfl, g5⟩ := len_succ g4
  obtain ⟨c6, e6, rfl, g6⟩ := len_succ g5
  obtain rfl := List.length_eq_zero_iff.1 g6
  simp [co3, co9, co75] at h2
  exact ⟨c0, c1, c2, c3, c4, c5, c6, rfl, h2⟩
theorem own97 {n : Nat} {ds : List D} (h : Own Try.prog (n + 1) 97 ds) : ∃ c0 c1 c2 c3 c4 c5 c6, ds = [c0, c1, c2, c3, c4, c5, c6] ∧ Own Try.prog n 9 [c0] ∧ Own Try.prog n 9 [c1] ∧ Own Try.prog n 75 [c2, c3, c4, c5] ∧ Own Try.prog n 3 [c6] := by
  simp only [Own, Try.underlying97] at h
  obtain ⟨h1, h2⟩ := h
  rw [co97] at h1
  obtain ⟨c0, e0, rfl, g0⟩ := len_succ h1
  obtain ⟨c1, e1, rfl, g1⟩ := len_succ g0
  obtain ⟨c2, e2, rfl, g2⟩ := len_succ g1
  obtain ⟨c3, e3, rfl, g3⟩ := len_succ g2
  obtain ⟨c4, e4, rfl, g4⟩ := len_succ g3
  obtain ⟨c5, e5, rfl, g5⟩ := len_succ g4
  obtain ⟨c6, e6, rfl, g6⟩ := len_succ g5
  obtain rfl := List.length_eq_zero_iff.1 g6
  simp [co3, co9, co75] at h2
  exact ⟨c0, c1, c2, c3, c4, c5, c6, rfl, h2⟩
theorem mkown97 {n : Nat} {c0 c1 c2 c3 c4 c5 c6 : D} (h : Own Try.prog n 9 [c0] ∧ Own Try.prog n 9 [c1] ∧ Own Try.prog n 75 [c2, c3, c4, c5] ∧ Own Try.prog n 3 [c6]) : Own Try.prog (n + 1) 97 [c0, c1, c2, c3, c4, c5, c6] := by
  refine mk_own_struct Try.underlying97 (by rw [co97]; rfl) ?_
  simp [co3, co9, co75]
  exact h
theorem mkfits97 {n : Nat} {c0 c1 c2 c3 c4 c5 c6 : D} (h : Fits Try.prog n 9 [c0] ∧ Fits Try.prog n 9 [c1] ∧ Fits Try.prog n 75 [c2, c3, c4, c5] ∧ Fits Try.prog n 3 [c6]) : Fits Try.prog (n + 1) 97 [c0, c1, c2, c3, c4, c5, c6] := by
  refine mk_fits_struct Try.underlying97 (by rw [co97]; rfl) ?_
  simp [co3, co9, co75]
  exact h
end T1
