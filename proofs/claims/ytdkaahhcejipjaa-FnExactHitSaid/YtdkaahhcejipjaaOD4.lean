import Derived.Test.YtdkaahhcejipjaaOD2
import Derived.Test.YtdkaahhcejipjaaProg
import Derived.KernelRfl
set_option linter.unusedVariables false
set_option linter.unusedSimpArgs false
set_option linter.unnecessarySimpa false
set_option linter.unusedSectionVars false
open Go Go.Vi Go.Proofs
namespace T1
set_option maxRecDepth 100000
set_option maxHeartbeats 4000000
set_option linter.constructorNameAsVariable false
set_option linter.unusedVariables false
variable {o : Ora} (ho : IsDen vfun vloop o)
def SzOver (o : Ora) (n : Nat) : Prop := ∀ ds left, Fits Try.prog n 25 ds → 0 ≤ left → left ≤ 1048576 → ∃ r, o.call 9 [.agg (ds.map .d), .d (.int .i64 left)] [] = some ⟨.d (.int .i64 r), [], []⟩ ∧ (r = -1 ∨ (0 ≤ r ∧ r + cntL ds ≤ left ∧ SmL 1048576 ds))
def SzKidS (o : Ora) (n : Nat) : Prop := ∀ xs left, Fits Try.prog n 22 [.lst xs] → 0 ≤ left → left ≤ 1048576 → ∃ r, o.call 29 [.d (.lst xs), .d (.int .i64 left)] [] = some ⟨.d (.int .i64 r), [], []⟩ ∧ (r = -1 ∨ (0 ≤ r ∧ r + cnt (.lst xs) ≤ left ∧ Sm 1048576 (.lst xs)))
def SzIntS (o : Ora) (n : Nat) : Prop := ∀ xs left, Fits Try.prog n 23 [.lst xs] → 0 ≤ left → left ≤ 1048576 → ∃ r, o.call 30 [.d (.lst xs), .d (.int .i64 left)] [] = some ⟨.d (.int .i64 r), [], []⟩ ∧ (r = -1 ∨ (0 ≤ r ∧ r + cnt (.lst xs) ≤ left ∧ Sm 1048576 (.lst xs)))
def SzKid (o : Ora) (n : Nat) : Prop := ∀ ds left, Fits Try.prog n 95 ds → 0 ≤ left → left ≤ 1048576 → ∃ r, o.call 61 [.agg (ds.map .d), .d (.int .i64 left)] [] = some ⟨.d (.int .i64 r), [], []⟩ ∧ (r = -1 ∨ (0 ≤ r ∧ r + cntL ds ≤ left ∧ SmL 1048576 ds))
def SzTerm (o : Ora) (n : Nat) : Prop := ∀ ds left, Fits Try.prog n 93 ds → 0 ≤ left → left ≤ 1048576 → ∃ r, o.call 83 [.agg (ds.map .d), .d (.int .i64 left)] [] = some ⟨.d (.int .i64 r), [], []⟩ ∧ (r = -1 ∨ (0 ≤ r ∧ r + cntL ds ≤ left ∧ SmL 1048576 ds))
def SzTermS (o : Ora) (n : Nat) : Prop := ∀ xs left, Fits Try.prog n 91 [.lst xs] → 0 ≤ left → left ≤ 1048576 → ∃ r, o.call 95 [.d (.lst xs), .d (.int .i64 left)] [] = some ⟨.d (.int .i64 r), [], []⟩ ∧ (r = -1 ∨ (0 ≤ r ∧ r + cnt (.lst xs) ≤ left ∧ Sm 1048576 (.lst xs)))
def SzAll (o : Ora) (n : Nat) : Prop := SzOver o n ∧ SzKidS o n ∧ SzIntS o n ∧ SzKid o n ∧ SzTerm o n ∧ SzTermS o n
theorem wrap_neg {n : Int} (h0 : n < 0) (h1 : -9223372036854775808 ≤ n) : IntKind.i64.wrap n = n := by
  have h2 : n % (18446744073709551616 : Int) = n + 18446744073709551616 := by omega
  show (if (true && decide (n % (18446744073709551616 : Int) ≥ (9223372036854775808 : Int))) = true then n % (18446744073709551616 : Int) - (18446744073709551616 : Int) else n % (18446744073709551616 : Int)) = n
  rw [h2]
  rw [if_pos (by simp; omega)]
  omega
include ho
theorem sub_ok {a b : Int} (h0 : 0 ≤ a) (h1 : a ≤ 1048576) (h2 : 0 ≤ b) (h3 : b ≤ 9223372036854775807) : o.ar .sub .i64 a b = a - b := by
  rw [ho.ar]; simp only [arI]
  by_cases h : 0 ≤ a - b
  · exact wrap_id h (by omega)
  · exact wrap_neg (by omega) (by omega)
theorem szOver_ev0 (c0 c1 c2 c3 c4 c5 c6 : D) (x3 : List D) (x4 : List D) (x5 : List D) (r0 r1 : Int) (q0 : o.call 29 [.d (.lst x3), .d (.int .i64 r0)] [] = some ⟨.d (.int .i64 r1), [], []⟩) (b0 : o.cmp .lss r1 0 = true) : o.call 9 [.agg [.d c0, .d c1, .d c2, .d (.lst x3), .d (.lst x4), .d (.lst x5), .d c6], .d (.int .i64 r0)] [] = some ⟨.d (.int .i64 (-1)), [], []⟩ := by
  refine ho.callR ?_
  cbv
  rw [q0]
  cbv
  rw [b0]
  cbv
theorem szOver_ev1 (c0 c1 c2 c3 c4 c5 c6 : D) (x3 : List D) (x4 : List D) (x5 : List D) (r0 r1 r2 : Int) (q0 : o.call 29 [.d (.lst x3), .d (.int .i64 r0)] [] = some ⟨.d (.int .i64 r1), [], []⟩) (b0 : o.cmp .lss r1 0 = false) (q1 : o.call 30 [.d (.lst x4), .d (.int .i64 r1)] [] = some ⟨.d (.int .i64 r2), [], []⟩) (b1 : o.cmp .lss r2 0 = true) : o.call 9 [.agg [.d c0, .d c1, .d c2, .d (.lst x3), .d (.lst x4), .d (.lst x5), .d c6], .d (.int .i64 r0)] [] = some ⟨.d (.int .i64 (-1)), [], []⟩ := by
  refine ho.callR ?_
  cbv
  rw [q0]
  cbv
  rw [b0]
  cbv
  rw [q1]
  cbv
  rw [b1]
  cbv
theorem szOver_ev2 (c0 c1 c2 c3 c4 c5 c6 : D) (x3 : List D) (x4 : List D) (x5 : List D) (r0 r1 r2 r3 : Int) (q0 : o.call 29 [.d (.lst x3), .d (.int .i64 r0)] [] = some ⟨.d (.int .i64 r1), [], []⟩) (b0 : o.cmp .lss r1 0 = false) (q1 : o.call 30 [.d (.lst x4), .d (.int .i64 r1)] [] = some ⟨.d (.int .i64 r2), [], []⟩) (b1 : o.cmp .lss r2 0 = false) (q2 : o.call 30 [.d (.lst x5), .d (.int .i64 r2)] [] = some ⟨.d (.int .i64 r3), [], []⟩) (b2 : o.cmp .lss r3 0 = true) : o.call 9 [.agg [.d c0, .d c1, .d c2, .d (.lst x3), .d (.lst x4), .d (.lst x5), .d c6], .d (.int .i64 r0)] [] = some ⟨.d (.int .i64 (-1)), [], []⟩ := by
  refine ho.callR ?_
  cbv
  rw [q0]
  cbv
  rw [b0]
  cbv
  rw [q1]
  cbv
  rw [b1]
  cbv
  rw [q2]
  cbv
  rw [b2]
  cbv
theorem szOver_ev (c0 c1 c2 c3 c4 c5 c6 : D) (x3 : List D) (x4 : List D) (x5 : List D) (r0 r1 r2 r3 : Int) (q0 : o.call 29 [.d (.lst x3), .d (.int .i64 r0)] [] = some ⟨.d (.int .i64 r1), [], []⟩) (b0 : o.cmp .lss r1 0 = false) (q1 : o.call 30 [.d (.lst x4), .d (.int .i64 r1)] [] = some ⟨.d (.int .i64 r2), [], []⟩) (b1 : o.cmp .lss r2 0 = false) (q2 : o.call 30 [.d (.lst x5), .d (.int .i64 r2)] [] = some ⟨.d (.int .i64 r3), [], []⟩) (b2 : o.cmp .lss r3 0 = false) : o.call 9 [.agg [.d c0, .d c1, .d c2, .d (.lst x3), .d (.lst x4), .d (.lst x5), .d c6], .d (.int .i64 r0)] [] = some ⟨.d (.int .i64 r3), [], []⟩ := by
  refine ho.callR ?_
  cbv
  rw [q0]
  cbv
  rw [b0]
  cbv
  rw [q1]
  cbv
  rw [b1]
  cbv
  rw [q2]
  cbv
  rw [b2]
  cbv
theorem szKid_ev0 (c0 c1 c2 c3 c4 c5 c6 : D) (x0 : ByteArray) (x1 : ByteArray) (r0 r1 : Int) (q0 : o.ar .sub .i64 r0 (o.sLen x0) = r1) (b0 : o.cmp .lss r1 0 = true) : o.call 61 [.agg [.d (.str x0), .d (.str x1), .d c2, .d c3, .d c4, .d c5, .d c6], .d (.int .i64 r0)] [] = some ⟨.d (.int .i64 (-1)), [], []⟩ := by
  refine ho.callR ?_
  cbv
  rw [q0]
  cbv
  rw [b0]
  cbv
theorem szKid_ev1 (c0 c1 c2 c3 c4 c5 c6 : D) (x0 : ByteArray) (x1 : ByteArray) (r0 r1 r2 : Int) (q0 : o.ar .sub .i64 r0 (o.sLen x0) = r1) (b0 : o.cmp .lss r1 0 = false) (q1 : o.ar .sub .i64 r1 (o.sLen x1) = r2) (b1 : o.cmp .lss r2 0 = true) : o.call 61 [.agg [.d (.str x0), .d (.str x1), .d c2, .d c3, .d c4, .d c5, .d c6], .d (.int .i64 r0)] [] = some ⟨.d (.int .i64 (-1)), [], []⟩ := by
  refine ho.callR ?_
  cbv
  rw [q0]
  cbv
  rw [b0]
  cbv
  rw [q1]
  cbv
  rw [b1]
  cbv
theorem szKid_ev2 (c0 c1 c2 c3 c4 c5 c6 : D) (x0 : ByteArray) (x1 : ByteArray) (r0 r1 r2 r3 : Int) (q0 : o.ar .sub .i64 r0 (o.sLen x0) = r1) (b0 : o.cmp .lss r1 0 = false) (q1 : o.ar .sub .i64 r1 (o.sLen x1) = r2) (b1 : o.cmp .lss r2 0 = false) (q2 : o.call 83 [.agg [.d c2, .d c3, .d c4, .d c5], .d (.int .i64 r2)] [] = some ⟨.d (.int .i64 r3), [], []⟩) (b2 : o.cmp .lss r3 0 = true) : o.call 61 [.agg [.d (.str x0), .d (.str x1), .d c2, .d c3, .d c4, .d c5, .d c6], .d (.int .i64 r0)] [] = some ⟨.d (.int .i64 (-1)), [], []⟩ := by
  refine ho.callR ?_
  cbv
  rw [q0]
  cbv
  rw [b0]
  cbv
  rw [q1]
  cbv
  rw [b1]
  cbv
  rw [q2]
  cbv
  rw [b2]
  cbv
theorem szKid_ev (c0 c1 c2 c3 c4 c5 c6 : D) (x0 : ByteArray) (x1 : ByteArray) (r0 r1 r2 r3 : Int) (q0 : o.ar .sub .i64 r0 (o.sLen x0) = r1) (b0 : o.cmp .lss r1 0 = false) (q1 : o.ar .sub .i64 r1 (o.sLen x1) = r2) (b1 : o.cmp .lss r2 0 = false) (q2 : o.call 83 [.agg [.d c2, .d c3, .d c4, .d c5], .d (.int .i64 r2)] [] = some ⟨.d (.int .i64 r3), [], []⟩) (b2 : o.cmp .lss r3 0 = false) : o.call 61 [.agg [.d (.str x0), .d (.str x1), .d c2, .d c3, .d c4, .d c5, .d c6], .d (.int .i64 r0)] [] = some ⟨.d (.int .i64 r3), [], []⟩ := by
  refine ho.callR ?_
  cbv
  rw [q0]
  cbv
  rw [b0]
  cbv
  rw [q1]
  cbv
  rw [b1]
  cbv
  rw [q2]
  cbv
  rw [b2]
  cbv
theorem szTerm_ev0 (c0 c1 c2 c3 : D) (x2 : ByteArray) (x3 : List D) (r0 r1 : Int) (q0 : o.ar .sub .i64 r0 (o.sLen x2) = r1) (b0 : o.cmp .lss r1 0 = true) : o.call 83 [.agg [.d c0, .d c1, .d (.str x2), .d (.lst x3)], .d (.int .i64 r0)] [] = some ⟨.d (.int .i64 (-1)), [], []⟩ := by
  refine ho.callR ?_
  cbv
  rw [q0]
  cbv
  rw [b0]
  cbv
theorem szTerm_ev1 (c0 c1 c2 c3 : D) (x2 : ByteArray) (x3 : List D) (r0 r1 r2 : Int) (q0 : o.ar .sub .i64 r0 (o.sLen x2) = r1) (b0 : o.cmp .lss r1 0 = false) (q1 : o.call 95 [.d (.lst x3), .d (.int .i64 r1)] [] = some ⟨.d (.int .i64 r2), [], []⟩) (b1 : o.cmp .lss r2 0 = true) : o.call 83 [.agg [.d c0, .d c1, .d (.str x2), .d (.lst x3)], .d (.int .i64 r0)] [] = some ⟨.d (.int .i64 (-1)), [], []⟩ := by
  refine ho.callR ?_
  cbv
  rw [q0]
  cbv
  rw [b0]
  cbv
  rw [q1]
  cbv
  rw [b1]
  cbv
theorem szTerm_ev (c0 c1 c2 c3 : D) (x2 : ByteArray) (x3 : List D) (r0 r1 r2 : Int) (q0 : o.ar .sub .i64 r0 (o.sLen x2) = r1) (b0 : o.cmp .lss r1 0 = false) (q1 : o.call 95 [.d (.lst x3), .d (.int .i64 r1)] [] = some ⟨.d (.int .i64 r2), [], []⟩) (b1 : o.cmp .lss r2 0 = false) : o.call 83 [.agg [.d c0, .d c1, .d (.str x2), .d (.lst x3)], .d (.int .i64 r0)] [] = some ⟨.d (.int .i64 r2), [], []⟩ := by
  refine ho.callR ?_
  cbv
  rw [q0]
  cbv
  rw [b0]
  cbv
  rw [q1]
  cbv
  rw [b1]
  cbv
theorem lss0 {a : Int} (h : 0 ≤ a) : o.cmp .lss a 0 = false := by rw [ho.cmp]; simp [cmpI]; omega
theorem lss1 {a : Int} (h : a < 0) : o.cmp .lss a 0 = true := by rw [ho.cmp]; simp [cmpI]; omega
theorem szKidS_loop (xs : List D) (n : Int) (hn : o.len xs = n) (hm : n ≤ 9223372036854775807) (hx : ∀ x ∈ xs, ∃ c0 c1 c2 c3 c4 c5 c6, x = .agg [c0, c1, c2, c3, c4, c5, c6] ∧ ∀ left, 0 ≤ left → left ≤ 1048576 → ∃ r, o.call 61 [.agg [.d c0, .d c1, .d c2, .d c3, .d c4, .d c5, .d c6], .d (.int .i64 left)] [] = some ⟨.d (.int .i64 r), [], []⟩ ∧ (r = -1 ∨ (0 ≤ r ∧ r + cntL [c0, c1, c2, c3, c4, c5, c6] ≤ left ∧ SmL 1048576 [c0, c1, c2, c3, c4, c5, c6]))) : ∀ (m : Nat) (k r : Int), 0 ≤ k → k + m = n → 0 ≤ r → r ≤ 1048576 →
    (∃ r2, o.loop 2900 ⟨[.d (.lst xs), .d (.int .i64 r), .undef, .undef, .undef, .d (.int .i64 k), .undef, .undef, .undef, .undef, .undef, .undef, .undef, .undef, .undef, .undef, .undef, .undef, .undef, .undef, .undef, .undef, .undef, .undef, .undef, .undef, .undef], [[], [], [], [], [], [], [], [], [], [], [], [], [], [], [], [], [], [], [], [], [], [], [], [], [], [], []]⟩ = some (.exit 0, ⟨[.undef, .d (.int .i64 r2), .undef, .undef, .undef, .undef, .undef, .undef, .undef, .undef, .undef, .undef, .undef, .undef, .undef, .undef, .undef, .undef, .undef, .undef, .undef, .undef, .undef, .undef, .undef, .undef, .undef], [[], [], [], [], [], [], [], [], [], [], [], [], [], [], [], [], [], [], [], [], [], [], [], [], [], [], []]⟩) ∧ 0 ≤ r2 ∧ r2 + cntL (xs.drop k.toNat) ≤ r ∧ ∀ j, k.toNat ≤ j → ∀ x, xs[j]? = some x → Sm 1048576 x) ∨ (∃ r2, o.loop 2900 ⟨[.d (.lst xs), .d (.int .i64 r), .undef, .undef, .undef, .d (.int .i64 k), .undef, .undef, .undef, .undef, .undef, .undef, .undef, .undef, .undef, .undef, .undef, .undef, .undef, .undef, .undef, .undef, .undef, .undef, .undef, .undef, .undef], [[], [], [], [], [], [], [], [], [], [], [], [], [], [], [], [], [], [], [], [], [], [], [], [], [], [], []]⟩ = some (.ret, ⟨[.undef, .d (.int .i64 r2), .undef, .undef, .d (.int .i64 (-1)), .undef, .undef, .undef, .undef, .undef, .undef, .undef, .undef, .undef, .undef, .undef, .undef, .undef, .undef, .undef, .undef, .undef, .undef, .undef, .undef, .undef, .undef], [[], [], [], [], [], [], [], [], [], [], [], [], [], [], [], [], [], [], [], [], [], [], [], [], [], [], []]⟩))
  | 0, k, r, h0, h, g0, g1 => by
    have hk : k = n := by omega
    subst hk
    have hl : (xs.length : Int) = k := by rw [← hn, ho.len]
    have h2 := lt_no ho k
    refine .inl ⟨r, ho.loopR ?_, g0, (by rw [cntL_end (by omega)]; omega), fun j hj x hx => ?_⟩
    · clear hx hm g1 hl
      cbv
      repeat ((first | rw [hn] | rw [h2]); (try cbv))
    · have := (List.getElem?_eq_some_iff.1 hx).1; omega
  | m + 1, k, r, h0, h, g0, g1 => by
    have hl : (xs.length : Int) = n := by rw [← hn, ho.len]
    have hk : k.toNat < xs.length := by omega
    obtain ⟨x, hxk⟩ : ∃ x, xs[k.toNat]? = some x := ⟨_, List.getElem?_eq_getElem hk⟩
    obtain ⟨c0, c1, c2, c3, c4, c5, c6, rfl, hc⟩ := hx x (List.mem_of_getElem? hxk)
    obtain ⟨r1, hc, hr⟩ := hc r g0 g1
    have h2 := lt_yes ho (show k < n by omega)
    have h3 := elt_some ho xs k _ h0 hxk
    have h4 := inc ho h0 (show k < n by omega) hm
    rcases hr with rfl | ⟨s0, s1, s2⟩
    · refine .inr ⟨-1, ho.loopR ?_⟩
      have h5 := lss1 ho (show (-1 : Int) < 0 by omega)
      clear hx hl
      cbv
      repeat ((first | rw [hn] | rw [h2] | rw [h3] | rw [hc] | rw [h5]); (try cbv))
    · have h5 := lss0 ho s0
      have hr1 : r1 ≤ r := by have := cntL_nn [c0, c1, c2, c3, c4, c5, c6]; omega
      have ih := szKidS_loop xs n hn hm hx m (k + 1) r1 (by omega) (by omega) s0 (by omega)
      rcases ih with ⟨r2, i1, i2, i3, i4⟩ | ⟨r2, i1⟩
      · refine .inl ⟨r2, ho.loopR ?_, i2, (by have hcd := cntL_drop hxk; rw [show k.toNat + 1 = (k + 1).toNat by omega] at hcd; simp only [cnt] at hcd; omega), fun j hj x hxj => ?_⟩
        · clear hx hl i4
          cbv
          repeat ((first | rw [hn] | rw [h2] | rw [h3] | rw [hc] | rw [h5] | rw [h4] | exact i1); (try cbv))
        · by_cases hjk : j = k.toNat
          · subst hjk; rw [hxk] at hxj; injection hxj with hxj; subst hxj; simpa only [Sm] using s2
          · exact i4 j (by omega) x hxj
      · refine .inr ⟨r2, ho.loopR ?_⟩
        clear hx hl
        cbv
        repeat ((first | rw [hn] | rw [h2] | rw [h3] | rw [hc] | rw [h5] | rw [h4] | exact i1); (try cbv))
theorem szTermS_loop (xs : List D) (n : Int) (hn : o.len xs = n) (hm : n ≤ 9223372036854775807) (hx : ∀ x ∈ xs, ∃ c0 c1 c2 c3, x = .agg [c0, c1, c2, c3] ∧ ∀ left, 0 ≤ left → left ≤ 1048576 → ∃ r, o.call 83 [.agg [.d c0, .d c1, .d c2, .d c3], .d (.int .i64 left)] [] = some ⟨.d (.int .i64 r), [], []⟩ ∧ (r = -1 ∨ (0 ≤ r ∧ r + cntL [c0, c1, c2, c3] ≤ left ∧ SmL 1048576 [c0, c1, c2, c3]))) : ∀ (m : Nat) (k r : Int), 0 ≤ k → k + m = n → 0 ≤ r → r ≤ 1048576 →
    (∃ r2, o.loop 9500 ⟨[.d (.lst xs), .d (.int .i64 r), .undef, .undef, .undef, .d (.int .i64 k), .undef, .undef, .undef, .undef, .undef, .undef, .undef, .undef, .undef, .undef, .undef, .undef, .undef, .undef, .undef, .undef, .undef, .undef, .undef, .undef, .undef], [[], [], [], [], [], [], [], [], [], [], [], [], [], [], [], [], [], [], [], [], [], [], [], [], [], [], []]⟩ = some (.exit 0, ⟨[.undef, .d (.int .i64 r2), .undef, .undef, .undef, .undef, .undef, .undef, .undef, .undef, .undef, .undef, .undef, .undef, .undef, .undef, .undef, .undef, .undef, .undef, .undef, .undef, .undef, .undef, .undef, .undef, .undef], [[], [], [], [], [], [], [], [], [], [], [], [], [], [], [], [], [], [], [], [], [], [], [], [], [], [], []]⟩) ∧ 0 ≤ r2 ∧ r2 + cntL (xs.drop k.toNat) ≤ r ∧ ∀ j, k.toNat ≤ j → ∀ x, xs[j]? = some x → Sm 1048576 x) ∨ (∃ r2, o.loop 9500 ⟨[.d (.lst xs), .d (.int .i64 r), .undef, .undef, .undef, .d (.int .i64 k), .undef, .undef, .undef, .undef, .undef, .undef, .undef, .undef, .undef, .undef, .undef, .undef, .undef, .undef, .undef, .undef, .undef, .undef, .undef, .undef, .undef], [[], [], [], [], [], [], [], [], [], [], [], [], [], [], [], [], [], [], [], [], [], [], [], [], [], [], []]⟩ = some (.ret, ⟨[.undef, .d (.int .i64 r2), .undef, .undef, .d (.int .i64 (-1)), .undef, .undef, .undef, .undef, .undef, .undef, .undef, .undef, .undef, .undef, .undef, .undef, .undef, .undef, .undef, .undef, .undef, .undef, .undef, .undef, .undef, .undef], [[], [], [], [], [], [], [], [], [], [], [], [], [], [], [], [], [], [], [], [], [], [], [], [], [], [], []]⟩))
  | 0, k, r, h0, h, g0, g1 => by
    have hk : k = n := by omega
    subst hk
    have hl : (xs.length : Int) = k := by rw [← hn, ho.len]
    have h2 := lt_no ho k
    refine .inl ⟨r, ho.loopR ?_, g0, (by rw [cntL_end (by omega)]; omega), fun j hj x hx => ?_⟩
    · clear hx hm g1 hl
      cbv
      repeat ((first | rw [hn] | rw [h2]); (try cbv))
    · have := (List.getElem?_eq_some_iff.1 hx).1; omega
  | m + 1, k, r, h0, h, g0, g1 => by
    have hl : (xs.length : Int) = n := by rw [← hn, ho.len]
    have hk : k.toNat < xs.length := by omega
    obtain ⟨x, hxk⟩ : ∃ x, xs[k.toNat]? = some x := ⟨_, List.getElem?_eq_getElem hk⟩
    obtain ⟨c0, c1, c2, c3, rfl, hc⟩ := hx x (List.mem_of_getElem? hxk)
    obtain ⟨r1, hc, hr⟩ := hc r g0 g1
    have h2 := lt_yes ho (show k < n by omega)
    have h3 := elt_some ho xs k _ h0 hxk
    have h4 := inc ho h0 (show k < n by omega) hm
    rcases hr with rfl | ⟨s0, s1, s2⟩
    · refine .inr ⟨-1, ho.loopR ?_⟩
      have h5 := lss1 ho (show (-1 : Int) < 0 by omega)
      clear hx hl
      cbv
      repeat ((first | rw [hn] | rw [h2] | rw [h3] | rw [hc] | rw [h5]); (try cbv))
    · have h5 := lss0 ho s0
      have hr1 : r1 ≤ r := by have := cntL_nn [c0, c1, c2, c3]; omega
      have ih := szTermS_loop xs n hn hm hx m (k + 1) r1 (by omega) (by omega) s0 (by omega)
      rcases ih with ⟨r2, i1, i2, i3, i4⟩ | ⟨r2, i1⟩
      · refine .inl ⟨r2, ho.loopR ?_, i2, (by have hcd := cntL_drop hxk; rw [show k.toNat + 1 = (k + 1).toNat by omega] at hcd; simp only [cnt] at hcd; omega), fun j hj x hxj => ?_⟩
        · clear hx hl i4
          cbv
          repeat ((first | rw [hn] | rw [h2] | rw [h3] | rw [hc] | rw [h5] | rw [h4] | exact i1); (try cbv))
        · by_cases hjk : j = k.toNat
          · subst hjk; rw [hxk] at hxj; injection hxj with hxj; subst hxj; simpa only [Sm] using s2
          · exact i4 j (by omega) x hxj
      · refine .inr ⟨r2, ho.loopR ?_⟩
        clear hx hl
        cbv
        repeat ((first | rw [hn] | rw [h2] | rw [h3] | rw [hc] | rw [h5] | rw [h4] | exact i1); (try cbv))
theorem szKidS_neg (xs : List D) (n r0 r1 : Int) (hn : o.len xs = n) (q : o.ar .sub .i64 r0 n = r1) (b : o.cmp .lss r1 0 = true) : o.call 29 [.d (.lst xs), .d (.int .i64 r0)] [] = some ⟨.d (.int .i64 (-1)), [], []⟩ := by
  refine ho.callR ?_
  cbv
  rw [hn]
  cbv
  rw [q]
  cbv
  rw [b]
  cbv
theorem szKidS_ok (xs : List D) (n r0 r1 : Int) (hn : o.len xs = n) (q : o.ar .sub .i64 r0 n = r1) (b : o.cmp .lss r1 0 = false) (r2 : Int) (l : o.loop 2900 ⟨[.d (.lst xs), .d (.int .i64 r1), .undef, .undef, .undef, .d (.int .i64 0), .undef, .undef, .undef, .undef, .undef, .undef, .undef, .undef, .undef, .undef, .undef, .undef, .undef, .undef, .undef, .undef, .undef, .undef, .undef, .undef, .undef], [[], [], [], [], [], [], [], [], [], [], [], [], [], [], [], [], [], [], [], [], [], [], [], [], [], [], []]⟩ = some (.exit 0, ⟨[.undef, .d (.int .i64 r2), .undef, .undef, .undef, .undef, .undef, .undef, .undef, .undef, .undef, .undef, .undef, .undef, .undef, .undef, .undef, .undef, .undef, .undef, .undef, .undef, .undef, .undef, .undef, .undef, .undef], [[], [], [], [], [], [], [], [], [], [], [], [], [], [], [], [], [], [], [], [], [], [], [], [], [], [], []]⟩)) : o.call 29 [.d (.lst xs), .d (.int .i64 r0)] [] = some ⟨.d (.int .i64 r2), [], []⟩ := by
  refine ho.callR ?_
  cbv
  rw [hn]
  cbv
  rw [q]
  cbv
  rw [b]
  cbv
  rw [l]
  cbv
theorem szKidS_ret (xs : List D) (n r0 r1 : Int) (hn : o.len xs = n) (q : o.ar .sub .i64 r0 n = r1) (b : o.cmp .lss r1 0 = false) (r2 : Int) (l : o.loop 2900 ⟨[.d (.lst xs), .d (.int .i64 r1), .undef, .undef, .undef, .d (.int .i64 0), .undef, .undef, .undef, .undef, .undef, .undef, .undef, .undef, .undef, .undef, .undef, .undef, .undef, .undef, .undef, .undef, .undef, .undef, .undef, .undef, .undef], [[], [], [], [], [], [], [], [], [], [], [], [], [], [], [], [], [], [], [], [], [], [], [], [], [], [], []]⟩ = some (.ret, ⟨[.undef, .d (.int .i64 r2), .undef, .undef, .d (.int .i64 (-1)), .undef, .undef, .undef, .undef, .undef, .undef, .undef, .undef, .undef, .undef, .undef, .undef, .undef, .undef, .undef, .undef, .undef, .undef, .undef, .undef, .undef, .undef], [[], [], [], [], [], [], [], [], [], [], [], [], [], [], [], [], [], [], [], [], [], [], [], [], [], [], []]⟩)) : o.call 29 [.d (.lst xs), .d (.int .i64 r0)] [] = some ⟨.d (.int .i64 (-1)), [], []⟩ := by
  refine ho.callR ?_
  cbv
  rw [hn]
  cbv
  rw [q]
  cbv
  rw [b]
  cbv
  rw [l]
  cbv
theorem szKidS {n : Nat} (ih : SzAll o n) : SzKidS o (n + 1) := by
  intro xs r0 h g0 g1
  obtain ⟨ys, m, em, e_, w, v⟩ := fits_lst Try.underlying22 h; injection e_ with e_; injection e_ with e_; subst e_; injection em with em; subst em
  have hn := ho.len xs
  have hw : ((xs.length : Nat) : Int) ≤ 9223372036854775807 := by unfold maxLen at w; omega
  have q := sub_ok ho g0 g1 (show (0 : Int) ≤ ((xs.length : Nat) : Int) by omega) hw
  by_cases hneg : r0 - ((xs.length : Nat) : Int) < 0
  · exact ⟨-1, szKidS_neg ho xs _ r0 _ hn q (lss1 ho hneg), .inl rfl⟩
  · have hx : ∀ x ∈ xs, ∃ c0 c1 c2 c3 c4 c5 c6, x = .agg [c0, c1, c2, c3, c4, c5, c6] ∧ ∀ left, 0 ≤ left → left ≤ 1048576 → ∃ r, o.call 61 [.agg [.d c0, .d c1, .d c2, .d c3, .d c4, .d c5, .d c6], .d (.int .i64 left)] [] = some ⟨.d (.int .i64 r), [], []⟩ ∧ (r = -1 ∨ (0 ≤ r ∧ r + cntL [c0, c1, c2, c3, c4, c5, c6] ≤ left ∧ SmL 1048576 [c0, c1, c2, c3, c4, c5, c6])) := by
      intro x hx
      obtain ⟨f1, f2⟩ := v x hx
      rw [show aggT Try.prog 95 = true by unfold aggT; rw [Try.underlying95]] at f2
      cases n with
      | zero => simp [Fits] at f1
      | succ n =>
        obtain ⟨c0, c1, c2, c3, c4, c5, c6, e1, _⟩ := fits95 f1
        have q := fun left => (ih.2.2.2.1) _ left f1
        rw [e1] at q
        exact ⟨c0, c1, c2, c3, c4, c5, c6, by rw [many_agg f2, e1], q⟩
    rcases szKidS_loop ho xs _ hn hw hx xs.length 0 (r0 - ((xs.length : Nat) : Int)) (Int.le_refl _) (by omega) (by omega) (by omega) with ⟨r2, i1, i2, i3, i4⟩ | ⟨r2, i1⟩
    · refine ⟨r2, szKidS_ok ho xs _ r0 _ hn q (lss0 ho (by omega)) r2 i1, .inr ⟨i2, by simp only [cnt]; simp at i3; omega, ?_⟩⟩
      simp only [Sm, SmL_iff]
      refine ⟨by omega, fun x hx => ?_⟩
      obtain ⟨j, hj⟩ := List.getElem?_of_mem hx
      exact i4 j (by simp) x hj
    · exact ⟨-1, szKidS_ret ho xs _ r0 _ hn q (lss0 ho (by omega)) r2 i1, .inl rfl⟩
theorem szIntS_neg (xs : List D) (n r0 r1 : Int) (hn : o.len xs = n) (q : o.ar .sub .i64 r0 n = r1) (b : o.cmp .lss r1 0 = true) : o.call 30 [.d (.lst xs), .d (.int .i64 r0)] [] = some ⟨.d (.int .i64 (-1)), [], []⟩ := by
  refine ho.callR ?_
  cbv
  rw [hn]
  cbv
  rw [q]
  cbv
  rw [b]
  cbv
theorem szIntS_ok (xs : List D) (n r0 r1 : Int) (hn : o.len xs = n) (q : o.ar .sub .i64 r0 n = r1) (b : o.cmp .lss r1 0 = false) : o.call 30 [.d (.lst xs), .d (.int .i64 r0)] [] = some ⟨.d (.int .i64 r1), [], []⟩ := by
  refine ho.callR ?_
  cbv
  rw [hn]
  cbv
  rw [q]
  cbv
  rw [b]
  cbv
theorem szIntS {n : Nat} (ih : SzAll o n) : SzIntS o (n + 1) := by
  intro xs r0 h g0 g1
  obtain ⟨ys, m, em, e_, w, v⟩ := fits_lst Try.underlying23 h; injection e_ with e_; injection e_ with e_; subst e_; injection em with em; subst em
  have hn := ho.len xs
  have hw : ((xs.length : Nat) : Int) ≤ 9223372036854775807 := by unfold maxLen at w; omega
  have q := sub_ok ho g0 g1 (show (0 : Int) ≤ ((xs.length : Nat) : Int) by omega) hw
  by_cases hneg : r0 - ((xs.length : Nat) : Int) < 0
  · exact ⟨-1, szIntS_neg ho xs _ r0 _ hn q (lss1 ho hneg), .inl rfl⟩
  · have hfl : ∀ x ∈ xs, cnt x = 0 := by
      intro x hx
      obtain ⟨f1, f2⟩ := v x hx
      rw [show aggT Try.prog 3 = false by unfold aggT; rw [Try.underlying3]] at f2
      obtain ⟨i, e1, _⟩ := fits_int Try.underlying3 f1
      rw [one_cell f2] at e1; injection e1 with e1; rw [e1]; rfl
    refine ⟨_, szIntS_ok ho xs _ r0 _ hn q (lss0 ho (by omega)), .inr ⟨by omega, by simp only [cnt]; rw [cntL_flat hfl]; omega, ?_⟩⟩
    simp only [Sm, SmL_iff]
    refine ⟨by omega, fun x hx => ?_⟩
    obtain ⟨f1, f2⟩ := v x hx
    rw [show aggT Try.prog 3 = false by unfold aggT; rw [Try.underlying3]] at f2
    obtain ⟨i, e1, _⟩ := fits_int Try.underlying3 f1
    rw [one_cell f2] at e1; injection e1 with e1; rw [e1]; simp [Sm]
theorem szTermS_neg (xs : List D) (n r0 r1 : Int) (hn : o.len xs = n) (q : o.ar .sub .i64 r0 n = r1) (b : o.cmp .lss r1 0 = true) : o.call 95 [.d (.lst xs), .d (.int .i64 r0)] [] = some ⟨.d (.int .i64 (-1)), [], []⟩ := by
  refine ho.callR ?_
  cbv
  rw [hn]
  cbv
  rw [q]
  cbv
  rw [b]
  cbv
theorem szTermS_ok (xs : List D) (n r0 r1 : Int) (hn : o.len xs = n) (q : o.ar .sub .i64 r0 n = r1) (b : o.cmp .lss r1 0 = false) (r2 : Int) (l : o.loop 9500 ⟨[.d (.lst xs), .d (.int .i64 r1), .undef, .undef, .undef, .d (.int .i64 0), .undef, .undef, .undef, .undef, .undef, .undef, .undef, .undef, .undef, .undef, .undef, .undef, .undef, .undef, .undef, .undef, .undef, .undef, .undef, .undef, .undef], [[], [], [], [], [], [], [], [], [], [], [], [], [], [], [], [], [], [], [], [], [], [], [], [], [], [], []]⟩ = some (.exit 0, ⟨[.undef, .d (.int .i64 r2), .undef, .undef, .undef, .undef, .undef, .undef, .undef, .undef, .undef, .undef, .undef, .undef, .undef, .undef, .undef, .undef, .undef, .undef, .undef, .undef, .undef, .undef, .undef, .undef, .undef], [[], [], [], [], [], [], [], [], [], [], [], [], [], [], [], [], [], [], [], [], [], [], [], [], [], [], []]⟩)) : o.call 95 [.d (.lst xs), .d (.int .i64 r0)] [] = some ⟨.d (.int .i64 r2), [], []⟩ := by
  refine ho.callR ?_
  cbv
  rw [hn]
  cbv
  rw [q]
  cbv
  rw [b]
  cbv
  rw [l]
  cbv
theorem szTermS_ret (xs : List D) (n r0 r1 : Int) (hn : o.len xs = n) (q : o.ar .sub .i64 r0 n = r1) (b : o.cmp .lss r1 0 = false) (r2 : Int) (l : o.loop 9500 ⟨[.d (.lst xs), .d (.int .i64 r1), .undef, .undef, .undef, .d (.int .i64 0), .undef, .undef, .undef, .undef, .undef, .undef, .undef, .undef, .undef, .undef, .undef, .undef, .undef, .undef, .undef, .undef, .undef, .undef, .undef, .undef, .undef], [[], [], [], [], [], [], [], [], [], [], [], [], [], [], [], [], [], [], [], [], [], [], [], [], [], [], []]⟩ = some (.ret, ⟨[.undef, .d (.int .i64 r2), .undef, .undef, .d (.int .i64 (-1)), .undef, .undef, .undef, .undef, .undef, .undef, .undef, .undef, .undef, .undef, .undef, .undef, .undef, .undef, .undef, .undef, .undef, .undef, .undef, .undef, .undef, .undef], [[], [], [], [], [], [], [], [], [], [], [], [], [], [], [], [], [], [], [], [], [], [], [], [], [], [], []]⟩)) : o.call 95 [.d (.lst xs), .d (.int .i64 r0)] [] = some ⟨.d (.int .i64 (-1)), [], []⟩ := by
  refine ho.callR ?_
  cbv
  rw [hn]
  cbv
  rw [q]
  cbv
  rw [b]
  cbv
  rw [l]
  cbv
theorem szTermS {n : Nat} (ih : SzAll o n) : SzTermS o (n + 1) := by
  intro xs r0 h g0 g1
  obtain ⟨ys, m, em, e_, w, v⟩ := fits_lst Try.underlying91 h; injection e_ with e_; injection e_ with e_; subst e_; injection em with em; subst em
  have hn := ho.len xs
  have hw : ((xs.length : Nat) : Int) ≤ 9223372036854775807 := by unfold maxLen at w; omega
  have q := sub_ok ho g0 g1 (show (0 : Int) ≤ ((xs.length : Nat) : Int) by omega) hw
  by_cases hneg : r0 - ((xs.length : Nat) : Int) < 0
  · exact ⟨-1, szTermS_neg ho xs _ r0 _ hn q (lss1 ho hneg), .inl rfl⟩
  · have hx : ∀ x ∈ xs, ∃ c0 c1 c2 c3, x = .agg [c0, c1, c2, c3] ∧ ∀ left, 0 ≤ left → left ≤ 1048576 → ∃ r, o.call 83 [.agg [.d c0, .d c1, .d c2, .d c3], .d (.int .i64 left)] [] = some ⟨.d (.int .i64 r), [], []⟩ ∧ (r = -1 ∨ (0 ≤ r ∧ r + cntL [c0, c1, c2, c3] ≤ left ∧ SmL 1048576 [c0, c1, c2, c3])) := by
      intro x hx
      obtain ⟨f1, f2⟩ := v x hx
      rw [show aggT Try.prog 93 = true by unfold aggT; rw [Try.underlying93]] at f2
      cases n with
      | zero => simp [Fits] at f1
      | succ n =>
        obtain ⟨c0, c1, c2, c3, e1, _⟩ := fits93 f1
        have q := fun left => (ih.2.2.2.2.1) _ left f1
        rw [e1] at q
        exact ⟨c0, c1, c2, c3, by rw [many_agg f2, e1], q⟩
    rcases szTermS_loop ho xs _ hn hw hx xs.length 0 (r0 - ((xs.length : Nat) : Int)) (Int.le_refl _) (by omega) (by omega) (by omega) with ⟨r2, i1, i2, i3, i4⟩ | ⟨r2, i1⟩
    · refine ⟨r2, szTermS_ok ho xs _ r0 _ hn q (lss0 ho (by omega)) r2 i1, .inr ⟨i2, by simp only [cnt]; simp at i3; omega, ?_⟩⟩
      simp only [Sm, SmL_iff]
      refine ⟨by omega, fun x hx => ?_⟩
      obtain ⟨j, hj⟩ := List.getElem?_of_mem hx
      exact i4 j (by simp) x hj
    · exact ⟨-1, szTermS_ret ho xs _ r0 _ hn q (lss0 ho (by omega)) r2 i1, .inl rfl⟩
theorem szOver {n : Nat} (ih : SzAll o n) : SzOver o (n + 1) := by
  intro ds r0 h g0 u0
  obtain ⟨ac0, ac1, ac2, ac3, ac4, ac5, ac6, rfl, ah0, ah1, ah2, ah3, ah4, ah5, ah6⟩ := fits25 h
  obtain ⟨x0, e_, w0⟩ := fits_int Try.underlying3 ah0; injection e_ with e_; subst e_
  obtain ⟨x1, e_, w1⟩ := fits_int Try.underlying3 ah1; injection e_ with e_; subst e_
  obtain ⟨x2, e_, w2⟩ := fits_int Try.underlying3 ah2; injection e_ with e_; subst e_
  have k3 := ah3; obtain ⟨x3, m3, em3, e_, w3, v3⟩ := fits_lst Try.underlying22 ah3; injection e_ with e_; subst e_
  have k4 := ah4; obtain ⟨x4, m4, em4, e_, w4, v4⟩ := fits_lst Try.underlying23 ah4; injection e_ with e_; subst e_
  have k5 := ah5; obtain ⟨x5, m5, em5, e_, w5, v5⟩ := fits_lst Try.underlying23 ah5; injection e_ with e_; subst e_
  obtain ⟨x6, e_⟩ := fits_bool Try.underlying4 ah6; injection e_ with e_; subst e_
  obtain ⟨r1, q0, hr1⟩ := (ih.2.1) x3 r0 k3 g0 u0
  rcases hr1 with e0 | ⟨g1, yy0, s0⟩
  · subst e0; exact ⟨-1, szOver_ev0 ho (.int .i64 x0) (.int .i64 x1) (.int .i64 x2) (.lst []) (.lst []) (.lst []) (.bool x6) x3 x4 x5 r0 (-1)  q0 (lss1 ho (by omega)), .inl rfl⟩
  have y0 := Int.le_trans (Int.le_add_of_nonneg_right (cnt_nn _)) yy0
  have u1 : r1 ≤ 1048576 := by omega
  obtain ⟨r2, q1, hr2⟩ := (ih.2.2.1) x4 r1 k4 g1 u1
  rcases hr2 with e1 | ⟨g2, yy1, s1⟩
  · subst e1; exact ⟨-1, szOver_ev1 ho (.int .i64 x0) (.int .i64 x1) (.int .i64 x2) (.lst []) (.lst []) (.lst []) (.bool x6) x3 x4 x5 r0 r1 (-1) q0 (lss0 ho g1) q1 (lss1 ho (by omega)), .inl rfl⟩
  have y1 := Int.le_trans (Int.le_add_of_nonneg_right (cnt_nn _)) yy1
  have u2 : r2 ≤ 1048576 := by omega
  obtain ⟨r3, q2, hr3⟩ := (ih.2.2.1) x5 r2 k5 g2 u2
  rcases hr3 with e2 | ⟨g3, yy2, s2⟩
  · subst e2; exact ⟨-1, szOver_ev2 ho (.int .i64 x0) (.int .i64 x1) (.int .i64 x2) (.lst []) (.lst []) (.lst []) (.bool x6) x3 x4 x5 r0 r1 r2 (-1) q0 (lss0 ho g1) q1 (lss0 ho g2) q2 (lss1 ho (by omega)), .inl rfl⟩
  have y2 := Int.le_trans (Int.le_add_of_nonneg_right (cnt_nn _)) yy2
  have u3 : r3 ≤ 1048576 := by omega
  refine ⟨r3, szOver_ev ho (.int .i64 x0) (.int .i64 x1) (.int .i64 x2) (.lst []) (.lst []) (.lst []) (.bool x6) x3 x4 x5 r0 r1 r2 r3 q0 (lss0 ho g1) q1 (lss0 ho g2) q2 (lss0 ho g3), .inr ⟨g3, (by simp only [cntL, cnt] at *; omega), ?_⟩⟩
  simp only [Sm, SmL] at *
  simp [*]
theorem szKid {n : Nat} (ih : SzAll o n) : SzKid o (n + 1) := by
  intro ds r0 h g0 u0
  obtain ⟨ac0, ac1, ac2, ac3, ac4, ac5, ac6, rfl, ah0, ah1, ah2, ah3⟩ := fits95 h
  obtain ⟨x0, e_, w0⟩ := fits_str Try.underlying9 ah0; injection e_ with e_; subst e_
  obtain ⟨x1, e_, w1⟩ := fits_str Try.underlying9 ah1; injection e_ with e_; subst e_
  obtain ⟨x3, e_, w3⟩ := fits_int Try.underlying3 ah3; injection e_ with e_; subst e_
  have l0 := ho.sLen x0
  have z0 : ((x0.size : Nat) : Int) ≤ 9223372036854775807 := by unfold maxLen at w0; omega
  have q0 : o.ar .sub .i64 r0 (o.sLen x0) = r0 - ((x0.size : Nat) : Int) := by rw [l0]; exact sub_ok ho g0 u0 (by omega) z0
  generalize hr1 : r0 - ((x0.size : Nat) : Int) = r1 at q0
  by_cases n0 : r1 < 0
  · exact ⟨-1, szKid_ev0 ho (.lst []) (.lst []) ac2 ac3 ac4 ac5 (.int .i64 x3) x0 x1 r0 r1  q0 (lss1 ho n0), .inl rfl⟩
  have g1 : 0 ≤ r1 := by omega
  have u1 : r1 ≤ 1048576 := by omega
  have y0 : r1 ≤ r0 := by omega
  have s0 : x0.size ≤ 1048576 := by omega
  have l1 := ho.sLen x1
  have z1 : ((x1.size : Nat) : Int) ≤ 9223372036854775807 := by unfold maxLen at w1; omega
  have q1 : o.ar .sub .i64 r1 (o.sLen x1) = r1 - ((x1.size : Nat) : Int) := by rw [l1]; exact sub_ok ho g1 u1 (by omega) z1
  generalize hr2 : r1 - ((x1.size : Nat) : Int) = r2 at q1
  by_cases n1 : r2 < 0
  · exact ⟨-1, szKid_ev1 ho (.lst []) (.lst []) ac2 ac3 ac4 ac5 (.int .i64 x3) x0 x1 r0 r1 r2 q0 (lss0 ho g1) q1 (lss1 ho n1), .inl rfl⟩
  have g2 : 0 ≤ r2 := by omega
  have u2 : r2 ≤ 1048576 := by omega
  have y1 : r2 ≤ r1 := by omega
  have s1 : x1.size ≤ 1048576 := by omega
  obtain ⟨r3, q2, hr3⟩ := (ih.2.2.2.2.1) _ r2 ah2 g2 u2
  simp only [List.map] at q2
  rcases hr3 with e2 | ⟨g3, yy2, s2⟩
  · subst e2; exact ⟨-1, szKid_ev2 ho (.lst []) (.lst []) ac2 ac3 ac4 ac5 (.int .i64 x3) x0 x1 r0 r1 r2 (-1) q0 (lss0 ho g1) q1 (lss0 ho g2) q2 (lss1 ho (by omega)), .inl rfl⟩
  have y2 := Int.le_trans (Int.le_add_of_nonneg_right (cntL_nn _)) yy2
  have u3 : r3 ≤ 1048576 := by omega
  refine ⟨r3, szKid_ev ho (.lst []) (.lst []) ac2 ac3 ac4 ac5 (.int .i64 x3) x0 x1 r0 r1 r2 r3 q0 (lss0 ho g1) q1 (lss0 ho g2) q2 (lss0 ho g3), .inr ⟨g3, (by simp only [cntL, cnt] at *; omega), ?_⟩⟩
  simp only [Sm, SmL] at *
  simp [*]
theorem szTerm {n : Nat} (ih : SzAll o n) : SzTerm o (n + 1) := by
  intro ds r0 h g0 u0
  obtain ⟨ac0, ac1, ac2, ac3, rfl, ah0, ah1, ah2, ah3⟩ := fits93 h
  obtain ⟨x0, e_, w0⟩ := fits_int Try.underlying3 ah0; injection e_ with e_; subst e_
  obtain ⟨x1, e_, w1⟩ := fits_int Try.underlying3 ah1; injection e_ with e_; subst e_
  obtain ⟨x2, e_, w2⟩ := fits_str Try.underlying9 ah2; injection e_ with e_; subst e_
  have k3 := ah3; obtain ⟨x3, m3, em3, e_, w3, v3⟩ := fits_lst Try.underlying91 ah3; injection e_ with e_; subst e_
  have l0 := ho.sLen x2
  have z0 : ((x2.size : Nat) : Int) ≤ 9223372036854775807 := by unfold maxLen at w2; omega
  have q0 : o.ar .sub .i64 r0 (o.sLen x2) = r0 - ((x2.size : Nat) : Int) := by rw [l0]; exact sub_ok ho g0 u0 (by omega) z0
  generalize hr1 : r0 - ((x2.size : Nat) : Int) = r1 at q0
  by_cases n0 : r1 < 0
  · exact ⟨-1, szTerm_ev0 ho (.int .i64 x0) (.int .i64 x1) (.lst []) (.lst []) x2 x3 r0 r1  q0 (lss1 ho n0), .inl rfl⟩
  have g1 : 0 ≤ r1 := by omega
  have u1 : r1 ≤ 1048576 := by omega
  have y0 : r1 ≤ r0 := by omega
  have s0 : x2.size ≤ 1048576 := by omega
  obtain ⟨r2, q1, hr2⟩ := (ih.2.2.2.2.2) x3 r1 k3 g1 u1
  rcases hr2 with e1 | ⟨g2, yy1, s1⟩
  · subst e1; exact ⟨-1, szTerm_ev1 ho (.int .i64 x0) (.int .i64 x1) (.lst []) (.lst []) x2 x3 r0 r1 (-1) q0 (lss0 ho g1) q1 (lss1 ho (by omega)), .inl rfl⟩
  have y1 := Int.le_trans (Int.le_add_of_nonneg_right (cnt_nn _)) yy1
  have u2 : r2 ≤ 1048576 := by omega
  refine ⟨r2, szTerm_ev ho (.int .i64 x0) (.int .i64 x1) (.lst []) (.lst []) x2 x3 r0 r1 r2 q0 (lss0 ho g1) q1 (lss0 ho g2), .inr ⟨g2, (by simp only [cntL, cnt] at *; omega), ?_⟩⟩
  simp only [Sm, SmL] at *
  simp [*]
theorem szAll : ∀ n, SzAll o n
  | 0 => by
    unfold SzAll
    refine ⟨?_, ?_, ?_, ?_, ?_, ?_⟩ <;> (intro x l h; simp [Fits] at h)
  | n + 1 => have ih := szAll n; ⟨szOver ho ih, szKidS ho ih, szIntS ho ih, szKid ho ih, szTerm ho ih, szTermS ho ih⟩
end T1
