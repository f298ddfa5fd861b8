import Derived.Test.YtdkaahhcejipjaaD4
import Derived.Test.YtdkaahhcejipjaaProg
import Derived.KernelRfl
set_option linter.unusedVariables false
set_option linter.unusedSimpArgs false
open Go Go.Vi Go.Proofs
namespace T1
set_option maxRecDepth 100000
set_option maxHeartbeats 4000000
set_option linter.unusedVariables false
/-- Types of the laws beside those of the program. -/
def twins : List (TypeId × TypeId) := [(40, 47), (36, 43), (37, 44), (38, 45), (111, 116), (25, 29), (114, 77), (109, 85), (22, 27), (23, 23), (95, 97), (93, 75), (91, 73), (106, 82), (107, 83), (154, 160), (157, 163), (152, 158), (172, 173), (3, 3), (4, 4), (9, 9)]
theorem twins_same : sameB Try.prog twins = true := by kernel_rfl
variable {o : Ora} (ho : IsDen vfun vloop o)
include ho
theorem eqHouse40 {n : Nat} (ds : List D) (h : Fits Try.prog n 40 ds) : o.call 20 [.agg (ds.map .d), .agg (ds.map .d)] [] = some ⟨.d (.bool true), [], []⟩ := (eqAll ho n).2.1 ds (fits_same twins_same n 40 47 ds (by simp [twins]) h)
theorem Started_ev (c0 c1 c2 c3 c4 : D) (r : Int) (v : Int) (q0 : o.call 16 [.agg [.d c0, .d c1, .d c2, .d c3, .d c4], .d (.int .i64 1048576)] [] = some ⟨.d (.int .i64 r), [], []⟩) (b0 : o.cmp .lss r 0 = false)
    (q1 : o.call 18 [.agg [.d c0, .d c1, .d c2, .d c3, .d c4]] [] = some ⟨.agg [.d c0, .d c1, .d c2, .d c3, .d c4], [], []⟩) (q2 : o.call 17 [.agg [.d c0, .d c1, .d c2, .d c3, .d c4]] [] = some ⟨.d (.int .i64 v), [], []⟩) (q3 : o.call 19 [.agg [.d c0, .d c1, .d c2, .d c3, .d c4]] [] = some ⟨.d (.int .i64 v), [], []⟩) (b1 : o.cmp .neq v v = false)
    (q4 : o.call 20 [.agg [.d c0, .d c1, .d c2, .d c3, .d c4], .agg [.d c0, .d c1, .d c2, .d c3, .d c4]] [] = some ⟨.d (.bool true), [], []⟩) : o.call 4 [.agg [.d c0, .d c1, .d c2, .d c3, .d c4]] [] = some ⟨.d (.bool true), [], []⟩ := by
  refine ho.callR ?_
  cbv
  repeat ((first | rw [q0] | rw [b0] | rw [q1] | rw [q2] | rw [q3] | rw [b1] | rw [q4]); (try cbv))
theorem Started_neg (c0 c1 c2 c3 c4 : D) (r : Int) (q0 : o.call 16 [.agg [.d c0, .d c1, .d c2, .d c3, .d c4], .d (.int .i64 1048576)] [] = some ⟨.d (.int .i64 r), [], []⟩) (b0 : o.cmp .lss r 0 = true) : o.call 4 [.agg [.d c0, .d c1, .d c2, .d c3, .d c4]] [] = some ⟨.d (.bool true), [], []⟩ := by
  refine ho.callR ?_
  cbv
  repeat ((first | rw [q0] | rw [b0]); (try cbv))
/-- The law Started, from what both functions come to. -/
theorem Started_join {n : Nat} {ds : List D} (h : Fits Try.prog n 40 ds) (hf : SmL 1048576 ds → ∃ v, o.call 17 [.agg (ds.map .d)] [] = some ⟨.d (.int .i64 v), [], []⟩ ∧ o.call 19 [.agg (ds.map .d)] [] = some ⟨.d (.int .i64 v), [], []⟩) :
    o.call 4 [.agg (ds.map .d)] [] = some ⟨.d (.bool true), [], []⟩ := by
  obtain ⟨r, q, hr⟩ := (szAll ho n).2.1 ds 1048576 h (by omega) (by omega)
  have h' := h
  cases n with
  | zero => simp [Fits] at h
  | succ n =>
    obtain ⟨c0, c1, c2, c3, c4, rfl, _⟩ := fits40 h
    rcases hr with rfl | ⟨g0, g1, g2⟩
    · exact Started_neg ho c0 c1 c2 c3 c4 _ q (lss1 ho (by omega))
    · obtain ⟨v, hs, hi⟩ := hf g2
      exact Started_ev ho c0 c1 c2 c3 c4 r v q (lss0 ho g0) ((toAll ho (n + 1)).2.1 _ h' g2) hs hi (eq_int ho _) (eqHouse40 ho _ h')
theorem Waiting_ev (c0 c1 c2 c3 c4 : D) (r : Int) (v : Int) (q0 : o.call 16 [.agg [.d c0, .d c1, .d c2, .d c3, .d c4], .d (.int .i64 1048576)] [] = some ⟨.d (.int .i64 r), [], []⟩) (b0 : o.cmp .lss r 0 = false)
    (q1 : o.call 18 [.agg [.d c0, .d c1, .d c2, .d c3, .d c4]] [] = some ⟨.agg [.d c0, .d c1, .d c2, .d c3, .d c4], [], []⟩) (q2 : o.call 21 [.agg [.d c0, .d c1, .d c2, .d c3, .d c4]] [] = some ⟨.d (.int .i64 v), [], []⟩) (q3 : o.call 22 [.agg [.d c0, .d c1, .d c2, .d c3, .d c4]] [] = some ⟨.d (.int .i64 v), [], []⟩) (b1 : o.cmp .neq v v = false)
    (q4 : o.call 20 [.agg [.d c0, .d c1, .d c2, .d c3, .d c4], .agg [.d c0, .d c1, .d c2, .d c3, .d c4]] [] = some ⟨.d (.bool true), [], []⟩) : o.call 5 [.agg [.d c0, .d c1, .d c2, .d c3, .d c4]] [] = some ⟨.d (.bool true), [], []⟩ := by
  refine ho.callR ?_
  cbv
  repeat ((first | rw [q0] | rw [b0] | rw [q1] | rw [q2] | rw [q3] | rw [b1] | rw [q4]); (try cbv))
theorem Waiting_neg (c0 c1 c2 c3 c4 : D) (r : Int) (q0 : o.call 16 [.agg [.d c0, .d c1, .d c2, .d c3, .d c4], .d (.int .i64 1048576)] [] = some ⟨.d (.int .i64 r), [], []⟩) (b0 : o.cmp .lss r 0 = true) : o.call 5 [.agg [.d c0, .d c1, .d c2, .d c3, .d c4]] [] = some ⟨.d (.bool true), [], []⟩ := by
  refine ho.callR ?_
  cbv
  repeat ((first | rw [q0] | rw [b0]); (try cbv))
/-- The law Waiting, from what both functions come to. -/
theorem Waiting_join {n : Nat} {ds : List D} (h : Fits Try.prog n 40 ds) (hf : SmL 1048576 ds → ∃ v, o.call 21 [.agg (ds.map .d)] [] = some ⟨.d (.int .i64 v), [], []⟩ ∧ o.call 22 [.agg (ds.map .d)] [] = some ⟨.d (.int .i64 v), [], []⟩) :
    o.call 5 [.agg (ds.map .d)] [] = some ⟨.d (.bool true), [], []⟩ := by
  obtain ⟨r, q, hr⟩ := (szAll ho n).2.1 ds 1048576 h (by omega) (by omega)
  have h' := h
  cases n with
  | zero => simp [Fits] at h
  | succ n =>
    obtain ⟨c0, c1, c2, c3, c4, rfl, _⟩ := fits40 h
    rcases hr with rfl | ⟨g0, g1, g2⟩
    · exact Waiting_neg ho c0 c1 c2 c3 c4 _ q (lss1 ho (by omega))
    · obtain ⟨v, hs, hi⟩ := hf g2
      exact Waiting_ev ho c0 c1 c2 c3 c4 r v q (lss0 ho g0) ((toAll ho (n + 1)).2.1 _ h' g2) hs hi (eq_int ho _) (eqHouse40 ho _ h')
theorem NotTooOften_ev (c0 c1 c2 c3 c4 : D) (r : Int) (v : Bool) (q0 : o.call 16 [.agg [.d c0, .d c1, .d c2, .d c3, .d c4], .d (.int .i64 1048576)] [] = some ⟨.d (.int .i64 r), [], []⟩) (b0 : o.cmp .lss r 0 = false)
    (q1 : o.call 18 [.agg [.d c0, .d c1, .d c2, .d c3, .d c4]] [] = some ⟨.agg [.d c0, .d c1, .d c2, .d c3, .d c4], [], []⟩) (q2 : o.call 23 [.agg [.d c0, .d c1, .d c2, .d c3, .d c4]] [] = some ⟨.d (.bool v), [], []⟩) (q3 : o.call 24 [.agg [.d c0, .d c1, .d c2, .d c3, .d c4]] [] = some ⟨.d (.bool v), [], []⟩) 
    (q4 : o.call 20 [.agg [.d c0, .d c1, .d c2, .d c3, .d c4], .agg [.d c0, .d c1, .d c2, .d c3, .d c4]] [] = some ⟨.d (.bool true), [], []⟩) : o.call 6 [.agg [.d c0, .d c1, .d c2, .d c3, .d c4]] [] = some ⟨.d (.bool true), [], []⟩ := by
  cases v
  all_goals
    refine ho.callR ?_
    cbv
    repeat ((first | rw [q0] | rw [b0] | rw [q1] | rw [q2] | rw [q3] | rw [q4]); (try cbv))
theorem NotTooOften_neg (c0 c1 c2 c3 c4 : D) (r : Int) (q0 : o.call 16 [.agg [.d c0, .d c1, .d c2, .d c3, .d c4], .d (.int .i64 1048576)] [] = some ⟨.d (.int .i64 r), [], []⟩) (b0 : o.cmp .lss r 0 = true) : o.call 6 [.agg [.d c0, .d c1, .d c2, .d c3, .d c4]] [] = some ⟨.d (.bool true), [], []⟩ := by
  refine ho.callR ?_
  cbv
  repeat ((first | rw [q0] | rw [b0]); (try cbv))
/-- The law NotTooOften, from what both functions come to. -/
theorem NotTooOften_join {n : Nat} {ds : List D} (h : Fits Try.prog n 40 ds) (hf : SmL 1048576 ds → ∃ v, o.call 23 [.agg (ds.map .d)] [] = some ⟨.d (.bool v), [], []⟩ ∧ o.call 24 [.agg (ds.map .d)] [] = some ⟨.d (.bool v), [], []⟩) :
    o.call 6 [.agg (ds.map .d)] [] = some ⟨.d (.bool true), [], []⟩ := by
  obtain ⟨r, q, hr⟩ := (szAll ho n).2.1 ds 1048576 h (by omega) (by omega)
  have h' := h
  cases n with
  | zero => simp [Fits] at h
  | succ n =>
    obtain ⟨c0, c1, c2, c3, c4, rfl, _⟩ := fits40 h
    rcases hr with rfl | ⟨g0, g1, g2⟩
    · exact NotTooOften_neg ho c0 c1 c2 c3 c4 _ q (lss1 ho (by omega))
    · obtain ⟨v, hs, hi⟩ := hf g2
      exact NotTooOften_ev ho c0 c1 c2 c3 c4 r v q (lss0 ho g0) ((toAll ho (n + 1)).2.1 _ h' g2) hs hi (eqHouse40 ho _ h')
theorem OneEach_ev (c0 c1 c2 c3 c4 : D) (r : Int) (v : Bool) (q0 : o.call 16 [.agg [.d c0, .d c1, .d c2, .d c3, .d c4], .d (.int .i64 1048576)] [] = some ⟨.d (.int .i64 r), [], []⟩) (b0 : o.cmp .lss r 0 = false)
    (q1 : o.call 18 [.agg [.d c0, .d c1, .d c2, .d c3, .d c4]] [] = some ⟨.agg [.d c0, .d c1, .d c2, .d c3, .d c4], [], []⟩) (q2 : o.call 25 [.agg [.d c0, .d c1, .d c2, .d c3, .d c4]] [] = some ⟨.d (.bool v), [], []⟩) (q3 : o.call 26 [.agg [.d c0, .d c1, .d c2, .d c3, .d c4]] [] = some ⟨.d (.bool v), [], []⟩) 
    (q4 : o.call 20 [.agg [.d c0, .d c1, .d c2, .d c3, .d c4], .agg [.d c0, .d c1, .d c2, .d c3, .d c4]] [] = some ⟨.d (.bool true), [], []⟩) : o.call 7 [.agg [.d c0, .d c1, .d c2, .d c3, .d c4]] [] = some ⟨.d (.bool true), [], []⟩ := by
  cases v
  all_goals
    refine ho.callR ?_
    cbv
    repeat ((first | rw [q0] | rw [b0] | rw [q1] | rw [q2] | rw [q3] | rw [q4]); (try cbv))
theorem OneEach_neg (c0 c1 c2 c3 c4 : D) (r : Int) (q0 : o.call 16 [.agg [.d c0, .d c1, .d c2, .d c3, .d c4], .d (.int .i64 1048576)] [] = some ⟨.d (.int .i64 r), [], []⟩) (b0 : o.cmp .lss r 0 = true) : o.call 7 [.agg [.d c0, .d c1, .d c2, .d c3, .d c4]] [] = some ⟨.d (.bool true), [], []⟩ := by
  refine ho.callR ?_
  cbv
  repeat ((first | rw [q0] | rw [b0]); (try cbv))
/-- The law OneEach, from what both functions come to. -/
theorem OneEach_join {n : Nat} {ds : List D} (h : Fits Try.prog n 40 ds) (hf : SmL 1048576 ds → ∃ v, o.call 25 [.agg (ds.map .d)] [] = some ⟨.d (.bool v), [], []⟩ ∧ o.call 26 [.agg (ds.map .d)] [] = some ⟨.d (.bool v), [], []⟩) :
    o.call 7 [.agg (ds.map .d)] [] = some ⟨.d (.bool true), [], []⟩ := by
  obtain ⟨r, q, hr⟩ := (szAll ho n).2.1 ds 1048576 h (by omega) (by omega)
  have h' := h
  cases n with
  | zero => simp [Fits] at h
  | succ n =>
    obtain ⟨c0, c1, c2, c3, c4, rfl, _⟩ := fits40 h
    rcases hr with rfl | ⟨g0, g1, g2⟩
    · exact OneEach_neg ho c0 c1 c2 c3 c4 _ q (lss1 ho (by omega))
    · obtain ⟨v, hs, hi⟩ := hf g2
      exact OneEach_ev ho c0 c1 c2 c3 c4 r v q (lss0 ho g0) ((toAll ho (n + 1)).2.1 _ h' g2) hs hi (eqHouse40 ho _ h')
theorem CodeThere_ev (c0 c1 c2 c3 c4 : D) (r : Int) (v : Bool) (q0 : o.call 16 [.agg [.d c0, .d c1, .d c2, .d c3, .d c4], .d (.int .i64 1048576)] [] = some ⟨.d (.int .i64 r), [], []⟩) (b0 : o.cmp .lss r 0 = false)
    (q1 : o.call 18 [.agg [.d c0, .d c1, .d c2, .d c3, .d c4]] [] = some ⟨.agg [.d c0, .d c1, .d c2, .d c3, .d c4], [], []⟩) (q2 : o.call 27 [.agg [.d c0, .d c1, .d c2, .d c3, .d c4]] [] = some ⟨.d (.bool v), [], []⟩) (q3 : o.call 28 [.agg [.d c0, .d c1, .d c2, .d c3, .d c4]] [] = some ⟨.d (.bool v), [], []⟩) 
    (q4 : o.call 20 [.agg [.d c0, .d c1, .d c2, .d c3, .d c4], .agg [.d c0, .d c1, .d c2, .d c3, .d c4]] [] = some ⟨.d (.bool true), [], []⟩) : o.call 8 [.agg [.d c0, .d c1, .d c2, .d c3, .d c4]] [] = some ⟨.d (.bool true), [], []⟩ := by
  cases v
  all_goals
    refine ho.callR ?_
    cbv
    repeat ((first | rw [q0] | rw [b0] | rw [q1] | rw [q2] | rw [q3] | rw [q4]); (try cbv))
theorem CodeThere_neg (c0 c1 c2 c3 c4 : D) (r : Int) (q0 : o.call 16 [.agg [.d c0, .d c1, .d c2, .d c3, .d c4], .d (.int .i64 1048576)] [] = some ⟨.d (.int .i64 r), [], []⟩) (b0 : o.cmp .lss r 0 = true) : o.call 8 [.agg [.d c0, .d c1, .d c2, .d c3, .d c4]] [] = some ⟨.d (.bool true), [], []⟩ := by
  refine ho.callR ?_
  cbv
  repeat ((first | rw [q0] | rw [b0]); (try cbv))
/-- The law CodeThere, from what both functions come to. -/
theorem CodeThere_join {n : Nat} {ds : List D} (h : Fits Try.prog n 40 ds) (hf : SmL 1048576 ds → ∃ v, o.call 27 [.agg (ds.map .d)] [] = some ⟨.d (.bool v), [], []⟩ ∧ o.call 28 [.agg (ds.map .d)] [] = some ⟨.d (.bool v), [], []⟩) :
    o.call 8 [.agg (ds.map .d)] [] = some ⟨.d (.bool true), [], []⟩ := by
  obtain ⟨r, q, hr⟩ := (szAll ho n).2.1 ds 1048576 h (by omega) (by omega)
  have h' := h
  cases n with
  | zero => simp [Fits] at h
  | succ n =>
    obtain ⟨c0, c1, c2, c3, c4, rfl, _⟩ := fits40 h
    rcases hr with rfl | ⟨g0, g1, g2⟩
    · exact CodeThere_neg ho c0 c1 c2 c3 c4 _ q (lss1 ho (by omega))
    · obtain ⟨v, hs, hi⟩ := hf g2
      exact CodeThere_ev ho c0 c1 c2 c3 c4 r v q (lss0 ho g0) ((toAll ho (n + 1)).2.1 _ h' g2) hs hi (eqHouse40 ho _ h')
theorem started17 (c0 c1 c2 c4 : D) (x : Int) : o.call 17 [.agg [.d c0, .d c1, .d c2, .d (.int .i64 x), .d c4]] [] = some ⟨.d (.int .i64 (o.ar .sub .i64 x 1)), [], []⟩ := by
  refine ho.callR ?_
  cbv
theorem started19 (c0 c1 c2 c4 : D) (x : Int) : o.call 19 [.agg [.d c0, .d c1, .d c2, .d (.int .i64 x), .d c4]] [] = some ⟨.d (.int .i64 (o.ar .sub .i64 x 1)), [], []⟩ := by
  refine ho.callR ?_
  cbv
theorem started_law {n : Nat} {ds : List D} (h : Fits Try.prog n 40 ds) : o.call 4 [.agg (ds.map .d)] [] = some ⟨.d (.bool true), [], []⟩ := by
  refine Started_join ho h fun _ => ?_
  cases n with
  | zero => simp [Fits] at h
  | succ n =>
    obtain ⟨c0, c1, c2, c3, c4, rfl, h0, h1, h2, h3, h4⟩ := fits40 h
    obtain ⟨x, e, _⟩ := fits_int Try.underlying3 h3
    injection e with e
    subst e
    exact ⟨_, started17 ho .., started19 ho ..⟩
end T1
