import Derived.Test.YtdkaahhcejipjaaOD14
import Derived.Test.YtdkaahhcejipjaaProg
import Derived.KernelRfl
set_option linter.unusedVariables false
set_option linter.unusedSimpArgs false
set_option linter.unnecessarySimpa false
set_option linter.unusedSectionVars false
open Go Go.Vi Go.Proofs
namespace T1
set_option maxRecDepth 100000
set_option maxHeartbeats 4000000
set_option linter.unusedVariables false
def twins : List (TypeId × TypeId) := [(25, 29), (22, 27), (95, 97), (93, 75), (91, 73), (23, 23), (3, 3), (9, 9), (4, 4)]
theorem isTwin : sameB Try.prog twins = true := by kernel_rfl
def implTs : List TypeId := [29, 27, 97, 75, 73, 23, 3, 9, 4]
theorem isImpl : plainB Try.prog implTs = true := by kernel_rfl
theorem int_list {n : Nat} {t : TypeId} (ht : t = 23) {xs : List D} (h : Fits Try.prog n t [.lst xs]) : xs.length ≤ maxLen ∧ ∀ x ∈ xs, ∃ p, x = .int .i64 p ∧ (Lit.int .i64 p).wf = true := by
  subst ht
  obtain ⟨ys, m, em, e_, w, v⟩ := fits_lst Try.underlying23 h
  injection e_ with e_; injection e_ with e_; subst e_
  refine ⟨w, fun x hx => ?_⟩
  obtain ⟨f1, f2⟩ := v x hx
  rw [show aggT Try.prog 3 = false by unfold aggT; rw [Try.underlying3]] at f2
  obtain ⟨i, e1, hw⟩ := fits_int Try.underlying3 f1
  rw [one_cell f2] at e1
  injection e1 with e1
  exact ⟨i, e1, hw⟩
theorem closed_ints {xs : List D} (h : ∀ x ∈ xs, ∃ p, x = .int .i64 p) : closedL xs = true := by
  rw [closedL_iff]
  intro x hx
  obtain ⟨p, rfl⟩ := h x hx
  rfl
theorem mk_ints {n : Nat} {xs : List D} (hl : xs.length ≤ maxLen) (h : ∀ x ∈ xs, ∃ p, x = .int .i64 p ∧ (Lit.int .i64 p).wf = true) : Fits Try.prog (n + 2) 23 [.lst xs] := by
  refine mk_fits_lst Try.underlying23 hl fun x hx => ?_
  obtain ⟨p, rfl, hw⟩ := h x hx
  refine ⟨?_, by unfold aggT; rw [Try.underlying3]; rfl⟩
  simp only [D.cells, Fits, Try.underlying3]
  exact ⟨p, rfl, hw⟩
theorem cnt_ints {xs : List D} (h : ∀ x ∈ xs, ∃ p, x = .int .i64 p) : cntL xs = 0 := cntL_flat fun x hx => by obtain ⟨p, rfl⟩ := h x hx; rfl
variable {o : Ora} (ho : IsDen vfun vloop o)
include ho
theorem hit_law {n : Nat} {xs : List D} (hf : Fits Try.prog n 25 xs) (now : Int) (hnow : (Lit.int .i64 now).wf = true) : o.call 3 [.agg (xs.map .d), .d (.int .i64 now)] [] = some ⟨.d (.bool true), [], []⟩ := by
  replace hf := fits_mono _ _ _ (fits_mono _ _ _ (fits_mono _ _ _ hf))
  obtain ⟨left, h9, hl⟩ := (szAll ho (n + 1 + 1 + 1)).1 xs 1048576 hf (by omega) (Int.le_refl _)
  have hf29 := fits_same isTwin (n + 1 + 1 + 1) 25 29 xs (by decide) hf
  obtain ⟨c0, c1, c2, c3, c4, c5, c6, rfl, g0, g1, g2, g3, g4, g5, g6⟩ := fits29 hf29
  have s0 := g0; have s1 := g1; have s2 := g2; have s6 := g6
  obtain ⟨wy, e_, _⟩ := fits_int Try.underlying3 g0; injection e_ with e_; subst e_
  obtain ⟨mr, e_, _⟩ := fits_int Try.underlying3 g1; injection e_ with e_; subst e_
  obtain ⟨mt, e_, _⟩ := fits_int Try.underlying3 g2; injection e_ with e_; subst e_
  obtain ⟨dn, e_⟩ := fits_bool Try.underlying4 g6; injection e_ with e_; subst e_
  have k3 := g3
  obtain ⟨ks, n1, en, e_, hks, _⟩ := fits_lst Try.underlying27 g3; injection e_ with e_; subst e_
  obtain ⟨ps, _, _, e_, _, _⟩ := fits_lst Try.underlying23 g4; injection e_ with e_; subst e_
  obtain ⟨ts, _, _, e_, _, _⟩ := fits_lst Try.underlying23 g5; injection e_ with e_; subst e_
  obtain rfl : n1 = n + 1 := by omega
  simp only [List.map_cons, List.map_nil] at h9 ⊢
  rcases hl with rfl | ⟨hl0, hl1, hsm⟩
  · exact law_neg ho wy mr mt ks ps ts dn now (-1) h9 (by rw [lt_of ho]; rfl)
  have hsm0 := hsm
  simp only [SmL, Sm] at hsm
  obtain ⟨_, _, _, hsk, hsp, hst, _⟩ := hsm
  simp only [cntL, cnt] at hl1
  obtain ⟨hpl, hpi⟩ := int_list rfl g4
  obtain ⟨htl, hti⟩ := int_list rfl g5
  have hpi' : ∀ x ∈ ps, ∃ p, x = .int .i64 p := fun x hx => by obtain ⟨p, e, _⟩ := hpi x hx; exact ⟨p, e⟩
  have hti' : ∀ x ∈ ts, ∃ p, x = .int .i64 p := fun x hx => by obtain ⟨p, e, _⟩ := hti x hx; exact ⟨p, e⟩
  have nk := cntL_nn ks
  have np := cntL_nn ps
  have nt := cntL_nn ts
  -- Hit on both sides
  obtain ⟨tl, yG, b, h10, h12, fG, hownG, htll, htli, htlo⟩ := hits ho wy mr mt ks ps ts dn now hnow k3 hsk hpi' hsp.1 hti' hst.1
  have htlw : ∀ x ∈ tl, ∃ p, x = .int .i64 p ∧ (Lit.int .i64 p).wf = true := by
    intro x hx
    rcases htlo x hx with h | h
    · exact hti x h
    · exact ⟨now, h, hnow⟩
  -- to*
  obtain ⟨d0, d1, d2, dx, yA, dp, dt, d6, ed, h11, hownA, fA⟩ := (toAll ho (n + 1 + 1 + 1)).1 _ hf hsm0
  simp only [List.cons.injEq, D.int.injEq, D.lst.injEq, D.bool.injEq, true_and, and_true] at ed
  obtain ⟨rfl, rfl, rfl, rfl, rfl, rfl, rfl⟩ := ed
  simp only [List.map_cons, List.map_nil] at h11
  obtain ⟨a0, a1, a2, a3, a4, a5, a6, ea, _, _, _, hkA, _⟩ := own29 hownA
  simp only [List.cons.injEq, and_true] at ea
  obtain ⟨_, _, _, ea3, _⟩ := ea
  subst ea3
  -- marks
  have mk := markAll ho (T1.mt ho) (n + 1 + 1)
  have cA : cntL yA = cntL ks := by rw [← fA, cntL_froze]
  have lA : yA.length = ks.length := by rw [← fA, frozeL_len]
  have cG : cntL yG = cntL ks := by rw [← fG, cntL_froze]
  have lG : yG.length = ks.length := by rw [← fG, frozeL_len]
  have cp0 := cnt_ints hpi'
  have ct0 := cnt_ints hti'
  have cl0 := cnt_ints htli
  have hks2 := hsk.1
  have hps2 := hsp.1
  have hts2 := hst.1
  obtain ⟨z1, k1, C1, _, q1, r1⟩ := mk.1 yA hkA 1 true (by omega) (by simp only [cnt]; omega)
  simp only [cnt] at r1
  obtain ⟨p1, k2, C2, _, q2, r2⟩ := mk.2.1 ps hpi' hpl k1 true (by omega) (by simp only [cnt]; omega)
  simp only [cnt] at r2
  obtain ⟨t1, k3', C3, _, q3, r3⟩ := mk.2.1 ts hti' htl k2 true (by omega) (by simp only [cnt]; omega)
  have m1 := mk14 ho wy mr mt ks ps ts dn yA z1 p1 t1 true true true 1 k1 k2 k3' C1 C2 C3
  obtain ⟨z2, j1, D1, H1, v1, w1⟩ := mk.1 yG hownG 1 false (by omega) (by simp only [cnt]; omega)
  simp only [cnt] at w1
  obtain ⟨p2, j2, D2, H2, v2, w2⟩ := mk.2.1 ps hpi' hpl j1 false (by omega) (by simp only [cnt]; omega)
  simp only [cnt] at w2
  obtain ⟨t2, j3, D3, H3, v3, w3⟩ := mk.2.1 tl htli (by unfold maxLen; omega) j2 false (by omega) (by simp only [cnt]; omega)
  have m2 := mk14 ho wy mr mt ks ps tl dn yG z2 p2 t2 false false false 1 j1 j2 j3 D1 D2 D3
  have h15 := he15 ho wy mr mt (frozeL z2) p2 t2 dn 1 j1 j2 j3 H1 (nneg ho (by omega)) H2 (nneg ho (by omega)) H3 (nneg ho (by omega))
  -- equal
  have e2 := (eqAll ho (n + 1 + 1 + 1)).1 _ hf29
  have e1 := (eqAll ho (n + 1 + 1 + 1)).1 [.int .i64 wy, .int .i64 mr, .int .i64 mt, .lst ks, .lst ps, .lst tl, .bool dn] (mkfits29 ⟨s0, s1, s2, k3, g4, ?_, s6⟩)
  rotate_left
  · exact mk_ints (by unfold maxLen; omega) htlw
  simp only [List.map_cons, List.map_nil] at e1 e2
  exact law_ev ho wy mr mt ks ps ts dn now left k3' j3 yA yG tl z1 p1 t1 z2 (frozeL z2) p2 t2 b h9 (nneg ho hl0) h11 (by rw [ho.froze]; exact fA) (by rw [ho.closed]; have := own_closed isImpl _ _ _ (by decide) hkA; simpa [closedL, closedD] using this) (by rw [ho.closed]; exact closed_ints hti')
    h10 h12 (by rw [ho.froze]; exact fG) (by rw [ho.closed]; have := own_closed isImpl _ _ _ (by decide) hownG; simpa [closedL, closedD] using this) (by rw [ho.closed]; exact closed_ints hpi') (by rw [ho.closed]; exact closed_ints htli)
    e1 e2 (by simp) m1 (nneg ho (by omega)) m2 (ho.froze z2) h15 (nneg ho (by omega)) (eq_int ho _)
end T1
