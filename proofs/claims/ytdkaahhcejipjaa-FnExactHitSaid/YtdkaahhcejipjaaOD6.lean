import Derived.Test.YtdkaahhcejipjaaOD3
import Derived.Test.YtdkaahhcejipjaaProg
import Derived.KernelRfl
set_option linter.unusedVariables false
set_option linter.unusedSimpArgs false
set_option linter.unnecessarySimpa false
set_option linter.unusedSectionVars false
open Go Go.Vi Go.Proofs
namespace T1
set_option maxRecDepth 100000
set_option maxHeartbeats 4000000
set_option linter.constructorNameAsVariable false
set_option linter.unusedVariables false
variable {o : Ora} (ho : IsDen vfun vloop o)
/-- A chain of counts over the elements. -/
def Chain (R : D → Int → Int → Prop) : List D → Int → Int → Prop
  | [], k, k' => k' = k
  | x :: xs, k, k' => ∃ k1, R x k k1 ∧ Chain R xs k1 k'
def MT (o : Ora) : Prop := ∀ k : Int, 0 ≤ k → k ≤ 4611686018427387904 → ∃ s, o.call 70 [.d (.int .i64 k)] [] = some ⟨.d (.str s), [], []⟩
def MarkKidS (o : Ora) (n : Nat) : Prop := ∀ ys, Own Try.prog n 27 [.own (97, 7) ys] → ∀ (k : Int) (u : Bool), 0 ≤ k → k + 32 * cnt (.own (97, 7) ys) ≤ 4611686018427387904 → ∃ zs k2, o.call 42 [.arr (1, 0) (97, 7) none u, .d (.int .i64 k)] [some (.orows (97, 7) ys)] = some ⟨.d (.int .i64 k2), [some (.orows (97, 7) zs)], []⟩ ∧ o.call 44 [.d (.lst (frozeL zs)), .d (.int .i64 k)] [] = some ⟨.d (.int .i64 k2), [], []⟩ ∧ k ≤ k2 ∧ k2 ≤ k + 32 * cnt (.own (97, 7) ys)
def MarkIntS (o : Ora) (n : Nat) : Prop := ∀ ys, (∀ y ∈ ys, ∃ i, y = .int .i64 i) → ys.length ≤ maxLen → ∀ (k : Int) (u : Bool), 0 ≤ k → k + 32 * cnt (.own (3, 1) ys) ≤ 4611686018427387904 → ∃ zs k2, o.call 43 [.arr (1, 0) (3, 1) none u, .d (.int .i64 k)] [some (.rows (3, 1) ys)] = some ⟨.d (.int .i64 k2), [some (.rows (3, 1) zs)], []⟩ ∧ o.call 45 [.d (.lst zs), .d (.int .i64 k)] [] = some ⟨.d (.int .i64 k2), [], []⟩ ∧ k ≤ k2 ∧ k2 ≤ k + 32 * cnt (.own (3, 1) ys)
def MarkTermS (o : Ora) (n : Nat) : Prop := ∀ ys, Own Try.prog n 73 [.own (75, 4) ys] → ∀ (k : Int) (u : Bool), 0 ≤ k → k + 32 * cnt (.own (75, 4) ys) ≤ 4611686018427387904 → ∃ zs k2, o.call 71 [.arr (1, 0) (75, 4) none u, .d (.int .i64 k)] [some (.orows (75, 4) ys)] = some ⟨.d (.int .i64 k2), [some (.orows (75, 4) zs)], []⟩ ∧ o.call 72 [.d (.lst (frozeL zs)), .d (.int .i64 k)] [] = some ⟨.d (.int .i64 k2), [], []⟩ ∧ k ≤ k2 ∧ k2 ≤ k + 32 * cnt (.own (75, 4) ys)
def MarkAll (o : Ora) (n : Nat) : Prop := MarkKidS o n ∧ MarkIntS o n ∧ MarkTermS o n
def HEKidS (o : Ora) (x : D) (k k2 : Int) : Prop := ∃ (t0 : ByteArray) (t1 : ByteArray) (t4 : ByteArray) (f5 : List D) (j5 : Int), x = .agg [.str t0, .str t1, .int .i64 (k + 1 + 1), .int .i64 (k + 1 + 1 + 1), .str t4, .lst f5, .int .i64 (j5)] ∧ o.call 70 [.d (.int .i64 (k))] [] = some ⟨.d (.str t0), [], []⟩ ∧ o.call 70 [.d (.int .i64 (k + 1))] [] = some ⟨.d (.str t1), [], []⟩ ∧ o.call 70 [.d (.int .i64 (k + 1 + 1 + 1 + 1))] [] = some ⟨.d (.str t4), [], []⟩ ∧ o.call 72 [.d (.lst f5), .d (.int .i64 (k + 1 + 1 + 1 + 1 + 1))] [] = some ⟨.d (.int .i64 j5), [], []⟩ ∧ 0 ≤ k ∧ k ≤ 4611686018427387904 ∧ k + 1 + 1 + 1 + 1 + 1 ≤ j5 ∧ j5 ≤ 4611686018427387904 ∧ k2 ≤ 4611686018427387904 ∧ k2 = j5 + 1
def HEIntS (o : Ora) (x : D) (k k2 : Int) : Prop := x = .int .i64 (k) ∧ 0 ≤ k ∧ k ≤ 4611686018427387904 ∧ k2 ≤ 4611686018427387904 ∧ k2 = k + 1
def HETermS (o : Ora) (x : D) (k k2 : Int) : Prop := ∃ (t2 : ByteArray) (f3 : List D) (j3 : Int), x = .agg [.int .i64 (k), .int .i64 (k + 1), .str t2, .lst f3] ∧ o.call 70 [.d (.int .i64 (k + 1 + 1))] [] = some ⟨.d (.str t2), [], []⟩ ∧ o.call 72 [.d (.lst f3), .d (.int .i64 (k + 1 + 1 + 1))] [] = some ⟨.d (.int .i64 j3), [], []⟩ ∧ 0 ≤ k ∧ k ≤ 4611686018427387904 ∧ k + 1 + 1 + 1 ≤ j3 ∧ j3 ≤ 4611686018427387904 ∧ k2 ≤ 4611686018427387904 ∧ k2 = j3
def EMKidS (o : Ora) (y : D) : Prop := ∃ (d0 : D) (d1 : D) (d2 : D) (d3 : D) (d4 : D) (z5 : List D) (d6 : D), y = .agg [d0, d1, d2, d3, d4, .own (75, 4) z5, d6] ∧ cnt d0 = 0 ∧ cnt d1 = 0 ∧ cnt d2 = 0 ∧ cnt d3 = 0 ∧ cnt d4 = 0 ∧ cnt d6 = 0 ∧ (∀ (k : Int), 0 ≤ k → k + 32 * cnt (.own (75, 4) z5) ≤ 4611686018427387904 → ∃ w j, o.call 71 [.arr (1, 0) (75, 4) none false, .d (.int .i64 k)] [some (.orows (75, 4) z5)] = some ⟨.d (.int .i64 j), [some (.orows (75, 4) w)], []⟩ ∧ o.call 72 [.d (.lst (frozeL w)), .d (.int .i64 k)] [] = some ⟨.d (.int .i64 j), [], []⟩ ∧ k ≤ j ∧ j ≤ k + 32 * cnt (.own (75, 4) z5))
def EMIntS (o : Ora) (y : D) : Prop := ∃ (d0 : Int), y = .int .i64 d0
def EMTermS (o : Ora) (y : D) : Prop := ∃ (d0 : D) (d1 : D) (d2 : D) (z3 : List D), y = .agg [d0, d1, d2, .own (75, 4) z3] ∧ cnt d0 = 0 ∧ cnt d1 = 0 ∧ cnt d2 = 0 ∧ (∀ (k : Int), 0 ≤ k → k + 32 * cnt (.own (75, 4) z3) ≤ 4611686018427387904 → ∃ w j, o.call 71 [.arr (1, 0) (75, 4) none false, .d (.int .i64 k)] [some (.orows (75, 4) z3)] = some ⟨.d (.int .i64 j), [some (.orows (75, 4) w)], []⟩ ∧ o.call 72 [.d (.lst (frozeL w)), .d (.int .i64 k)] [] = some ⟨.d (.int .i64 j), [], []⟩ ∧ k ≤ j ∧ j ≤ k + 32 * cnt (.own (75, 4) z3))
include ho
theorem set_len (xs : List D) (i : Int) (x : D) : (o.set xs i x).length = xs.length := by rw [ho.set]; simp
theorem set_set (xs : List D) (i : Int) (x y : D) : o.set (o.set xs i x) i y = o.set xs i y := by rw [ho.set, ho.set, ho.set, List.set_set]
theorem elt_set {xs : List D} {i : Int} {x : D} (h0 : 0 ≤ i) (h : i.toNat < xs.length) : o.elt (o.set xs i x) i = some x := elt_set_same ho h0 (List.getElem?_eq_getElem h)
theorem inc2 {a : Int} (h0 : 0 ≤ a) (h : a ≤ 4611686018427387904) : o.ar .add .i64 a 1 = a + 1 := inc ho h0 (b := a + 1) (by omega) (by omega)
theorem nneg {a : Int} (h0 : 0 ≤ a) : o.cmp .lss a 0 = false := by rw [ho.cmp]; simp [cmpI]; omega
theorem markKidS_step (u : Bool) (Y0 Y1 Y2 Y3 Y4 Y5 Y6 Y7 : List D) (n i i1 k0 k1 k2 k3 k4 k5 k6 k7 : Int) (d0 : D) (d1 : D) (d2 : D) (d3 : D) (d4 : D) (z5 : List D) (d6 : D) (t0 : ByteArray) (t1 : ByteArray) (t4 : ByteArray) (w5 : List D) 
    (hn : o.len Y0 = n)
    (h2 : o.cmp .lss i n = true)
    (e0 : o.elt Y0 i = some (.agg [d0, d1, d2, d3, d4, .own (75, 4) z5, d6]))
    (T0 : o.call 70 [.d (.int .i64 k0)] [] = some ⟨.d (.str t0), [], []⟩)
    (K0 : o.ar .add .i64 k0 1 = k1)
    (S0 : o.set Y0 i (.agg [.str t0, d1, d2, d3, d4, .own (75, 4) z5, d6]) = Y1)
    (e1 : o.elt Y1 i = some (.agg [.str t0, d1, d2, d3, d4, .own (75, 4) z5, d6]))
    (T1 : o.call 70 [.d (.int .i64 k1)] [] = some ⟨.d (.str t1), [], []⟩)
    (K1 : o.ar .add .i64 k1 1 = k2)
    (S1 : o.set Y1 i (.agg [.str t0, .str t1, d2, d3, d4, .own (75, 4) z5, d6]) = Y2)
    (e2 : o.elt Y2 i = some (.agg [.str t0, .str t1, d2, d3, d4, .own (75, 4) z5, d6]))
    (K2 : o.ar .add .i64 k2 1 = k3)
    (S2 : o.set Y2 i (.agg [.str t0, .str t1, .int .i64 k2, d3, d4, .own (75, 4) z5, d6]) = Y3)
    (e3 : o.elt Y3 i = some (.agg [.str t0, .str t1, .int .i64 k2, d3, d4, .own (75, 4) z5, d6]))
    (K3 : o.ar .add .i64 k3 1 = k4)
    (S3 : o.set Y3 i (.agg [.str t0, .str t1, .int .i64 k2, .int .i64 k3, d4, .own (75, 4) z5, d6]) = Y4)
    (e4 : o.elt Y4 i = some (.agg [.str t0, .str t1, .int .i64 k2, .int .i64 k3, d4, .own (75, 4) z5, d6]))
    (T4 : o.call 70 [.d (.int .i64 k4)] [] = some ⟨.d (.str t4), [], []⟩)
    (K4 : o.ar .add .i64 k4 1 = k5)
    (S4 : o.set Y4 i (.agg [.str t0, .str t1, .int .i64 k2, .int .i64 k3, .str t4, .own (75, 4) z5, d6]) = Y5)
    (e5 : o.elt Y5 i = some (.agg [.str t0, .str t1, .int .i64 k2, .int .i64 k3, .str t4, .own (75, 4) z5, d6]))
    (C5 : o.call 71 [.arr (1, 0) (75, 4) none false, .d (.int .i64 k5)] [some (.orows (75, 4) z5)] = some ⟨.d (.int .i64 k6), [some (.orows (75, 4) w5)], []⟩)
    (S5 : o.set Y5 i (.agg [.str t0, .str t1, .int .i64 k2, .int .i64 k3, .str t4, .own (75, 4) w5, d6]) = Y6)
    (e6 : o.elt Y6 i = some (.agg [.str t0, .str t1, .int .i64 k2, .int .i64 k3, .str t4, .own (75, 4) w5, d6]))
    (K6 : o.ar .add .i64 k6 1 = k7)
    (S6 : o.set Y6 i (.agg [.str t0, .str t1, .int .i64 k2, .int .i64 k3, .str t4, .own (75, 4) w5, .int .i64 k6]) = Y7)
    (hi : o.ar .add .i64 i 1 = i1) (z : Out × St) (ih : o.loop 4200 ⟨[.arr (69, 0) (97, 7) none u, .d (.int .i64 k7), .undef, .undef, .undef, .d (.int .i64 i1), .undef, .undef, .undef, .undef, .undef, .undef, .undef, .undef, .undef, .undef, .undef, .undef, .undef, .undef, .undef, .undef, .undef, .undef, .undef, .undef, .undef, .undef, .undef, .undef, .undef, .undef, .undef, .undef, .undef, .undef, .undef, .undef, .undef, .undef, .undef, .undef, .undef, .undef, .undef, .undef, .undef, .undef, .undef, .undef, .undef, .undef, .undef, .undef, .undef, .undef, .undef, .undef, .undef, .undef, .undef, .undef, .undef, .undef, .undef, .undef, .undef, .undef, .undef], [[], [], [], [], [], [], [], [], [], [], [], [], [], [], [], [], [], [], [], [], [], [], [], [], [], [], [], [], [], [], [], [], [], [], [], [], [], [], [], [], [], [], [], [], [], [], [], [], [], [], [], [], [], [], [], [], [], [], [], [], [], [], [], [], [], [], [], [], [], [some (.orows (97, 7) Y7)]]⟩ = some z) : o.loop 4200 ⟨[.arr (69, 0) (97, 7) none u, .d (.int .i64 k0), .undef, .undef, .undef, .d (.int .i64 i), .undef, .undef, .undef, .undef, .undef, .undef, .undef, .undef, .undef, .undef, .undef, .undef, .undef, .undef, .undef, .undef, .undef, .undef, .undef, .undef, .undef, .undef, .undef, .undef, .undef, .undef, .undef, .undef, .undef, .undef, .undef, .undef, .undef, .undef, .undef, .undef, .undef, .undef, .undef, .undef, .undef, .undef, .undef, .undef, .undef, .undef, .undef, .undef, .undef, .undef, .undef, .undef, .undef, .undef, .undef, .undef, .undef, .undef, .undef, .undef, .undef, .undef, .undef], [[], [], [], [], [], [], [], [], [], [], [], [], [], [], [], [], [], [], [], [], [], [], [], [], [], [], [], [], [], [], [], [], [], [], [], [], [], [], [], [], [], [], [], [], [], [], [], [], [], [], [], [], [], [], [], [], [], [], [], [], [], [], [], [], [], [], [], [], [], [some (.orows (97, 7) Y0)]]⟩ = some z := by
  refine ho.loopR ?_
  cbv
  repeat ((first | rw [hn] | rw [h2] | rw [e0] | rw [T0] | rw [K0] | rw [S0] | rw [e1] | rw [T1] | rw [K1] | rw [S1] | rw [e2] | rw [K2] | rw [S2] | rw [e3] | rw [K3] | rw [S3] | rw [e4] | rw [T4] | rw [K4] | rw [S4] | rw [e5] | rw [C5] | rw [S5] | rw [e6] | rw [K6] | rw [S6] | rw [hi] | exact ih); (try cbv))
theorem markKidS_out (u : Bool) (Y0 : List D) (n k0 : Int) (hn : o.len Y0 = n) (h2 : o.cmp .lss n n = false) : o.loop 4200 ⟨[.arr (69, 0) (97, 7) none u, .d (.int .i64 k0), .undef, .undef, .undef, .d (.int .i64 n), .undef, .undef, .undef, .undef, .undef, .undef, .undef, .undef, .undef, .undef, .undef, .undef, .undef, .undef, .undef, .undef, .undef, .undef, .undef, .undef, .undef, .undef, .undef, .undef, .undef, .undef, .undef, .undef, .undef, .undef, .undef, .undef, .undef, .undef, .undef, .undef, .undef, .undef, .undef, .undef, .undef, .undef, .undef, .undef, .undef, .undef, .undef, .undef, .undef, .undef, .undef, .undef, .undef, .undef, .undef, .undef, .undef, .undef, .undef, .undef, .undef, .undef, .undef], [[], [], [], [], [], [], [], [], [], [], [], [], [], [], [], [], [], [], [], [], [], [], [], [], [], [], [], [], [], [], [], [], [], [], [], [], [], [], [], [], [], [], [], [], [], [], [], [], [], [], [], [], [], [], [], [], [], [], [], [], [], [], [], [], [], [], [], [], [], [some (.orows (97, 7) Y0)]]⟩ = some (.exit 0, ⟨[.undef, .d (.int .i64 k0), .undef, .undef, .undef, .undef, .undef, .undef, .undef, .undef, .undef, .undef, .undef, .undef, .undef, .undef, .undef, .undef, .undef, .undef, .undef, .undef, .undef, .undef, .undef, .undef, .undef, .undef, .undef, .undef, .undef, .undef, .undef, .undef, .undef, .undef, .undef, .undef, .undef, .undef, .undef, .undef, .undef, .undef, .undef, .undef, .undef, .undef, .undef, .undef, .undef, .undef, .undef, .undef, .undef, .undef, .undef, .undef, .undef, .undef, .undef, .undef, .undef, .undef, .undef, .undef, .undef, .undef, .undef], [[], [], [], [], [], [], [], [], [], [], [], [], [], [], [], [], [], [], [], [], [], [], [], [], [], [], [], [], [], [], [], [], [], [], [], [], [], [], [], [], [], [], [], [], [], [], [], [], [], [], [], [], [], [], [], [], [], [], [], [], [], [], [], [], [], [], [], [], [], [some (.orows (97, 7) Y0)]]⟩) := by
  refine ho.loopR ?_
  cbv
  repeat ((first | rw [hn] | rw [h2]); (try cbv))
theorem markKidS_ev (u : Bool) (ys zs : List D) (k k2 : Int) (l : o.loop 4200 ⟨[.arr (69, 0) (97, 7) none u, .d (.int .i64 k), .undef, .undef, .undef, .d (.int .i64 0), .undef, .undef, .undef, .undef, .undef, .undef, .undef, .undef, .undef, .undef, .undef, .undef, .undef, .undef, .undef, .undef, .undef, .undef, .undef, .undef, .undef, .undef, .undef, .undef, .undef, .undef, .undef, .undef, .undef, .undef, .undef, .undef, .undef, .undef, .undef, .undef, .undef, .undef, .undef, .undef, .undef, .undef, .undef, .undef, .undef, .undef, .undef, .undef, .undef, .undef, .undef, .undef, .undef, .undef, .undef, .undef, .undef, .undef, .undef, .undef, .undef, .undef, .undef], [[], [], [], [], [], [], [], [], [], [], [], [], [], [], [], [], [], [], [], [], [], [], [], [], [], [], [], [], [], [], [], [], [], [], [], [], [], [], [], [], [], [], [], [], [], [], [], [], [], [], [], [], [], [], [], [], [], [], [], [], [], [], [], [], [], [], [], [], [], [some (.orows (97, 7) ys)]]⟩ = some (.exit 0, ⟨[.undef, .d (.int .i64 k2), .undef, .undef, .undef, .undef, .undef, .undef, .undef, .undef, .undef, .undef, .undef, .undef, .undef, .undef, .undef, .undef, .undef, .undef, .undef, .undef, .undef, .undef, .undef, .undef, .undef, .undef, .undef, .undef, .undef, .undef, .undef, .undef, .undef, .undef, .undef, .undef, .undef, .undef, .undef, .undef, .undef, .undef, .undef, .undef, .undef, .undef, .undef, .undef, .undef, .undef, .undef, .undef, .undef, .undef, .undef, .undef, .undef, .undef, .undef, .undef, .undef, .undef, .undef, .undef, .undef, .undef, .undef], [[], [], [], [], [], [], [], [], [], [], [], [], [], [], [], [], [], [], [], [], [], [], [], [], [], [], [], [], [], [], [], [], [], [], [], [], [], [], [], [], [], [], [], [], [], [], [], [], [], [], [], [], [], [], [], [], [], [], [], [], [], [], [], [], [], [], [], [], [], [some (.orows (97, 7) zs)]]⟩)) : o.call 42 [.arr (1, 0) (97, 7) none u, .d (.int .i64 k)] [some (.orows (97, 7) ys)] = some ⟨.d (.int .i64 k2), [some (.orows (97, 7) zs)], []⟩ := by
  refine ho.callR ?_
  cbv
  rw [l]
  cbv
theorem heldKidS_step (xs : List D) (n i i1 k0 k1 k2 k3 k4 k5 k6 k7 : Int) (t0 : ByteArray) (t1 : ByteArray) (t4 : ByteArray) (f5 : List D) 
    (hn : o.len xs = n)
    (h2 : o.cmp .lss i n = true)
    (e0 : o.elt xs i = some (.agg [.str t0, .str t1, .int .i64 k2, .int .i64 k3, .str t4, .lst f5, .int .i64 k6]))
    (T0 : o.call 70 [.d (.int .i64 k0)] [] = some ⟨.d (.str t0), [], []⟩)
    (K0 : o.ar .add .i64 k0 1 = k1)
    (T1 : o.call 70 [.d (.int .i64 k1)] [] = some ⟨.d (.str t1), [], []⟩)
    (K1 : o.ar .add .i64 k1 1 = k2)
    (K2 : o.ar .add .i64 k2 1 = k3)
    (K3 : o.ar .add .i64 k3 1 = k4)
    (T4 : o.call 70 [.d (.int .i64 k4)] [] = some ⟨.d (.str t4), [], []⟩)
    (K4 : o.ar .add .i64 k4 1 = k5)
    (C5 : o.call 72 [.d (.lst f5), .d (.int .i64 k5)] [] = some ⟨.d (.int .i64 k6), [], []⟩)
    (N5 : o.cmp .lss k6 0 = false)
    (K6 : o.ar .add .i64 k6 1 = k7)
    (hi : o.ar .add .i64 i 1 = i1) (z : Out × St) (ih : o.loop 4400 ⟨[.d (.lst xs), .d (.int .i64 k7), .undef, .undef, .undef, .d (.int .i64 i1), .undef, .undef, .undef, .undef, .undef, .undef, .undef, .undef, .undef, .undef, .undef, .undef, .undef, .undef, .undef, .undef, .undef, .undef, .undef, .undef, .undef, .undef, .undef, .undef, .undef, .undef, .undef, .undef, .undef, .undef, .undef, .undef, .undef, .undef, .undef, .undef, .undef, .undef, .undef, .undef, .undef, .undef, .undef, .undef, .undef, .undef, .undef, .undef, .undef, .undef, .undef, .undef, .undef, .undef, .undef, .undef, .undef, .undef, .undef, .undef, .undef, .undef, .undef, .undef, .undef, .undef, .undef, .undef, .undef, .undef, .undef, .undef, .undef, .undef, .undef, .undef, .undef], [[], [], [], [], [], [], [], [], [], [], [], [], [], [], [], [], [], [], [], [], [], [], [], [], [], [], [], [], [], [], [], [], [], [], [], [], [], [], [], [], [], [], [], [], [], [], [], [], [], [], [], [], [], [], [], [], [], [], [], [], [], [], [], [], [], [], [], [], [], [], [], [], [], [], [], [], [], [], [], [], [], [], []]⟩ = some z) : o.loop 4400 ⟨[.d (.lst xs), .d (.int .i64 k0), .undef, .undef, .undef, .d (.int .i64 i), .undef, .undef, .undef, .undef, .undef, .undef, .undef, .undef, .undef, .undef, .undef, .undef, .undef, .undef, .undef, .undef, .undef, .undef, .undef, .undef, .undef, .undef, .undef, .undef, .undef, .undef, .undef, .undef, .undef, .undef, .undef, .undef, .undef, .undef, .undef, .undef, .undef, .undef, .undef, .undef, .undef, .undef, .undef, .undef, .undef, .undef, .undef, .undef, .undef, .undef, .undef, .undef, .undef, .undef, .undef, .undef, .undef, .undef, .undef, .undef, .undef, .undef, .undef, .undef, .undef, .undef, .undef, .undef, .undef, .undef, .undef, .undef, .undef, .undef, .undef, .undef, .undef], [[], [], [], [], [], [], [], [], [], [], [], [], [], [], [], [], [], [], [], [], [], [], [], [], [], [], [], [], [], [], [], [], [], [], [], [], [], [], [], [], [], [], [], [], [], [], [], [], [], [], [], [], [], [], [], [], [], [], [], [], [], [], [], [], [], [], [], [], [], [], [], [], [], [], [], [], [], [], [], [], [], [], []]⟩ = some z := by
  refine ho.loopR ?_
  cbv
  repeat ((first | rw [hn] | rw [h2] | rw [e0] | rw [eq_int ho] | rw [eq_str ho] | rw [T0] | rw [K0] | rw [T1] | rw [K1] | rw [K2] | rw [K3] | rw [T4] | rw [K4] | rw [C5] | rw [N5] | rw [K6] | rw [hi] | exact ih); (try cbv))
theorem heldKidS_out (xs : List D) (n k0 : Int) (hn : o.len xs = n) (h2 : o.cmp .lss n n = false) : o.loop 4400 ⟨[.d (.lst xs), .d (.int .i64 k0), .undef, .undef, .undef, .d (.int .i64 n), .undef, .undef, .undef, .undef, .undef, .undef, .undef, .undef, .undef, .undef, .undef, .undef, .undef, .undef, .undef, .undef, .undef, .undef, .undef, .undef, .undef, .undef, .undef, .undef, .undef, .undef, .undef, .undef, .undef, .undef, .undef, .undef, .undef, .undef, .undef, .undef, .undef, .undef, .undef, .undef, .undef, .undef, .undef, .undef, .undef, .undef, .undef, .undef, .undef, .undef, .undef, .undef, .undef, .undef, .undef, .undef, .undef, .undef, .undef, .undef, .undef, .undef, .undef, .undef, .undef, .undef, .undef, .undef, .undef, .undef, .undef, .undef, .undef, .undef, .undef, .undef, .undef], [[], [], [], [], [], [], [], [], [], [], [], [], [], [], [], [], [], [], [], [], [], [], [], [], [], [], [], [], [], [], [], [], [], [], [], [], [], [], [], [], [], [], [], [], [], [], [], [], [], [], [], [], [], [], [], [], [], [], [], [], [], [], [], [], [], [], [], [], [], [], [], [], [], [], [], [], [], [], [], [], [], [], []]⟩ = some (.exit 0, ⟨[.undef, .d (.int .i64 k0), .undef, .undef, .undef, .undef, .undef, .undef, .undef, .undef, .undef, .undef, .undef, .undef, .undef, .undef, .undef, .undef, .undef, .undef, .undef, .undef, .undef, .undef, .undef, .undef, .undef, .undef, .undef, .undef, .undef, .undef, .undef, .undef, .undef, .undef, .undef, .undef, .undef, .undef, .undef, .undef, .undef, .undef, .undef, .undef, .undef, .undef, .undef, .undef, .undef, .undef, .undef, .undef, .undef, .undef, .undef, .undef, .undef, .undef, .undef, .undef, .undef, .undef, .undef, .undef, .undef, .undef, .undef, .undef, .undef, .undef, .undef, .undef, .undef, .undef, .undef, .undef, .undef, .undef, .undef, .undef, .undef], [[], [], [], [], [], [], [], [], [], [], [], [], [], [], [], [], [], [], [], [], [], [], [], [], [], [], [], [], [], [], [], [], [], [], [], [], [], [], [], [], [], [], [], [], [], [], [], [], [], [], [], [], [], [], [], [], [], [], [], [], [], [], [], [], [], [], [], [], [], [], [], [], [], [], [], [], [], [], [], [], [], [], []]⟩) := by
  refine ho.loopR ?_
  cbv
  repeat ((first | rw [hn] | rw [h2]); (try cbv))
theorem heldKidS_ev (xs : List D) (k k2 : Int) (l : o.loop 4400 ⟨[.d (.lst xs), .d (.int .i64 k), .undef, .undef, .undef, .d (.int .i64 0), .undef, .undef, .undef, .undef, .undef, .undef, .undef, .undef, .undef, .undef, .undef, .undef, .undef, .undef, .undef, .undef, .undef, .undef, .undef, .undef, .undef, .undef, .undef, .undef, .undef, .undef, .undef, .undef, .undef, .undef, .undef, .undef, .undef, .undef, .undef, .undef, .undef, .undef, .undef, .undef, .undef, .undef, .undef, .undef, .undef, .undef, .undef, .undef, .undef, .undef, .undef, .undef, .undef, .undef, .undef, .undef, .undef, .undef, .undef, .undef, .undef, .undef, .undef, .undef, .undef, .undef, .undef, .undef, .undef, .undef, .undef, .undef, .undef, .undef, .undef, .undef, .undef], [[], [], [], [], [], [], [], [], [], [], [], [], [], [], [], [], [], [], [], [], [], [], [], [], [], [], [], [], [], [], [], [], [], [], [], [], [], [], [], [], [], [], [], [], [], [], [], [], [], [], [], [], [], [], [], [], [], [], [], [], [], [], [], [], [], [], [], [], [], [], [], [], [], [], [], [], [], [], [], [], [], [], []]⟩ = some (.exit 0, ⟨[.undef, .d (.int .i64 k2), .undef, .undef, .undef, .undef, .undef, .undef, .undef, .undef, .undef, .undef, .undef, .undef, .undef, .undef, .undef, .undef, .undef, .undef, .undef, .undef, .undef, .undef, .undef, .undef, .undef, .undef, .undef, .undef, .undef, .undef, .undef, .undef, .undef, .undef, .undef, .undef, .undef, .undef, .undef, .undef, .undef, .undef, .undef, .undef, .undef, .undef, .undef, .undef, .undef, .undef, .undef, .undef, .undef, .undef, .undef, .undef, .undef, .undef, .undef, .undef, .undef, .undef, .undef, .undef, .undef, .undef, .undef, .undef, .undef, .undef, .undef, .undef, .undef, .undef, .undef, .undef, .undef, .undef, .undef, .undef, .undef], [[], [], [], [], [], [], [], [], [], [], [], [], [], [], [], [], [], [], [], [], [], [], [], [], [], [], [], [], [], [], [], [], [], [], [], [], [], [], [], [], [], [], [], [], [], [], [], [], [], [], [], [], [], [], [], [], [], [], [], [], [], [], [], [], [], [], [], [], [], [], [], [], [], [], [], [], [], [], [], [], [], [], []]⟩)) : o.call 44 [.d (.lst xs), .d (.int .i64 k)] [] = some ⟨.d (.int .i64 k2), [], []⟩ := by
  refine ho.callR ?_
  cbv
  rw [l]
  cbv
theorem heldKidS_loop (xs : List D) (n : Int) (hl : (xs.length : Int) = n) (hm : n ≤ 4611686018427387904) : ∀ (m : Nat) (i k k2 : Int), 0 ≤ i → i + m = n → Chain (HEKidS o) (xs.drop i.toNat) k k2 → o.loop 4400 ⟨[.d (.lst xs), .d (.int .i64 k), .undef, .undef, .undef, .d (.int .i64 i), .undef, .undef, .undef, .undef, .undef, .undef, .undef, .undef, .undef, .undef, .undef, .undef, .undef, .undef, .undef, .undef, .undef, .undef, .undef, .undef, .undef, .undef, .undef, .undef, .undef, .undef, .undef, .undef, .undef, .undef, .undef, .undef, .undef, .undef, .undef, .undef, .undef, .undef, .undef, .undef, .undef, .undef, .undef, .undef, .undef, .undef, .undef, .undef, .undef, .undef, .undef, .undef, .undef, .undef, .undef, .undef, .undef, .undef, .undef, .undef, .undef, .undef, .undef, .undef, .undef, .undef, .undef, .undef, .undef, .undef, .undef, .undef, .undef, .undef, .undef, .undef, .undef], [[], [], [], [], [], [], [], [], [], [], [], [], [], [], [], [], [], [], [], [], [], [], [], [], [], [], [], [], [], [], [], [], [], [], [], [], [], [], [], [], [], [], [], [], [], [], [], [], [], [], [], [], [], [], [], [], [], [], [], [], [], [], [], [], [], [], [], [], [], [], [], [], [], [], [], [], [], [], [], [], [], [], []]⟩ = some (.exit 0, ⟨[.undef, .d (.int .i64 k2), .undef, .undef, .undef, .undef, .undef, .undef, .undef, .undef, .undef, .undef, .undef, .undef, .undef, .undef, .undef, .undef, .undef, .undef, .undef, .undef, .undef, .undef, .undef, .undef, .undef, .undef, .undef, .undef, .undef, .undef, .undef, .undef, .undef, .undef, .undef, .undef, .undef, .undef, .undef, .undef, .undef, .undef, .undef, .undef, .undef, .undef, .undef, .undef, .undef, .undef, .undef, .undef, .undef, .undef, .undef, .undef, .undef, .undef, .undef, .undef, .undef, .undef, .undef, .undef, .undef, .undef, .undef, .undef, .undef, .undef, .undef, .undef, .undef, .undef, .undef, .undef, .undef, .undef, .undef, .undef, .undef], [[], [], [], [], [], [], [], [], [], [], [], [], [], [], [], [], [], [], [], [], [], [], [], [], [], [], [], [], [], [], [], [], [], [], [], [], [], [], [], [], [], [], [], [], [], [], [], [], [], [], [], [], [], [], [], [], [], [], [], [], [], [], [], [], [], [], [], [], [], [], [], [], [], [], [], [], [], [], [], [], [], [], []]⟩)
  | 0, i, k, k2, h0, h, hc => by
    have hi : i = n := by omega
    subst hi
    rw [List.drop_eq_nil_of_le (by omega)] at hc
    simp only [Chain] at hc
    subst hc
    exact heldKidS_out ho xs i k2 (by rw [ho.len]; exact hl) (lt_no ho i)
  | m + 1, i, k, k2, h0, h, hc => by
    obtain ⟨x, hx⟩ : ∃ x, xs[i.toNat]? = some x := ⟨_, List.getElem?_eq_getElem (by omega)⟩
    obtain ⟨g1, g2⟩ := List.getElem?_eq_some_iff.1 hx
    rw [List.drop_eq_getElem_cons g1, g2] at hc
    obtain ⟨k1, hr, hc⟩ := hc
    obtain ⟨t0, t1, t4, f5, j5, rfl, c0, c1, c2, c3, b0, b1, b2, b3, bl, ek⟩ := hr
    rw [ek] at hc
    have ih := heldKidS_loop xs n hl hm m (i + 1) _ k2 (by omega) (by omega) (by rw [show (i + 1).toNat = i.toNat + 1 by omega]; exact hc)
    exact heldKidS_step ho xs n i (i + 1) (k) (k + 1) (k + 1 + 1) (k + 1 + 1 + 1) (k + 1 + 1 + 1 + 1) (k + 1 + 1 + 1 + 1 + 1) (j5) (j5 + 1) t0 t1 t4 f5  (by rw [ho.len]; exact hl) (lt_yes ho (by omega)) (elt_some ho xs i _ h0 hx) c0 (inc2 ho (by omega) (by omega)) c1 (inc2 ho (by omega) (by omega)) (inc2 ho (by omega) (by omega)) (inc2 ho (by omega) (by omega)) c2 (inc2 ho (by omega) (by omega)) c3 (nneg ho (by omega)) (inc2 ho (by omega) (by omega)) (inc2 ho h0 (by omega)) _ ih
theorem markIntS_step (u : Bool) (Y0 Y1 : List D) (n i i1 k0 k1 : Int) (d0 : Int)   
    (hn : o.len Y0 = n)
    (h2 : o.cmp .lss i n = true)
    (e0 : o.elt Y0 i = some (.int .i64 d0))
    (K0 : o.ar .add .i64 k0 1 = k1)
    (S0 : o.set Y0 i (.int .i64 k0) = Y1)
    (hi : o.ar .add .i64 i 1 = i1) (z : Out × St) (ih : o.loop 4300 ⟨[.arr (19, 0) (3, 1) none u, .d (.int .i64 k1), .undef, .undef, .undef, .d (.int .i64 i1), .undef, .undef, .undef, .undef, .undef, .undef, .undef, .undef, .undef, .undef, .undef, .undef, .undef], [[], [], [], [], [], [], [], [], [], [], [], [], [], [], [], [], [], [], [], [some (.rows (3, 1) Y1)]]⟩ = some z) : o.loop 4300 ⟨[.arr (19, 0) (3, 1) none u, .d (.int .i64 k0), .undef, .undef, .undef, .d (.int .i64 i), .undef, .undef, .undef, .undef, .undef, .undef, .undef, .undef, .undef, .undef, .undef, .undef, .undef], [[], [], [], [], [], [], [], [], [], [], [], [], [], [], [], [], [], [], [], [some (.rows (3, 1) Y0)]]⟩ = some z := by
  refine ho.loopR ?_
  cbv
  repeat ((first | rw [hn] | rw [h2] | rw [e0] | rw [K0] | rw [S0] | rw [hi] | exact ih); (try cbv))
theorem markIntS_out (u : Bool) (Y0 : List D) (n k0 : Int) (hn : o.len Y0 = n) (h2 : o.cmp .lss n n = false) : o.loop 4300 ⟨[.arr (19, 0) (3, 1) none u, .d (.int .i64 k0), .undef, .undef, .undef, .d (.int .i64 n), .undef, .undef, .undef, .undef, .undef, .undef, .undef, .undef, .undef, .undef, .undef, .undef, .undef], [[], [], [], [], [], [], [], [], [], [], [], [], [], [], [], [], [], [], [], [some (.rows (3, 1) Y0)]]⟩ = some (.exit 0, ⟨[.undef, .d (.int .i64 k0), .undef, .undef, .undef, .undef, .undef, .undef, .undef, .undef, .undef, .undef, .undef, .undef, .undef, .undef, .undef, .undef, .undef], [[], [], [], [], [], [], [], [], [], [], [], [], [], [], [], [], [], [], [], [some (.rows (3, 1) Y0)]]⟩) := by
  refine ho.loopR ?_
  cbv
  repeat ((first | rw [hn] | rw [h2]); (try cbv))
theorem markIntS_ev (u : Bool) (ys zs : List D) (k k2 : Int) (l : o.loop 4300 ⟨[.arr (19, 0) (3, 1) none u, .d (.int .i64 k), .undef, .undef, .undef, .d (.int .i64 0), .undef, .undef, .undef, .undef, .undef, .undef, .undef, .undef, .undef, .undef, .undef, .undef, .undef], [[], [], [], [], [], [], [], [], [], [], [], [], [], [], [], [], [], [], [], [some (.rows (3, 1) ys)]]⟩ = some (.exit 0, ⟨[.undef, .d (.int .i64 k2), .undef, .undef, .undef, .undef, .undef, .undef, .undef, .undef, .undef, .undef, .undef, .undef, .undef, .undef, .undef, .undef, .undef], [[], [], [], [], [], [], [], [], [], [], [], [], [], [], [], [], [], [], [], [some (.rows (3, 1) zs)]]⟩)) : o.call 43 [.arr (1, 0) (3, 1) none u, .d (.int .i64 k)] [some (.rows (3, 1) ys)] = some ⟨.d (.int .i64 k2), [some (.rows (3, 1) zs)], []⟩ := by
  refine ho.callR ?_
  cbv
  rw [l]
  cbv
theorem heldIntS_step (xs : List D) (n i i1 k0 k1 : Int)   
    (hn : o.len xs = n)
    (h2 : o.cmp .lss i n = true)
    (e0 : o.elt xs i = some (.int .i64 k0))
    (K0 : o.ar .add .i64 k0 1 = k1)
    (hi : o.ar .add .i64 i 1 = i1) (z : Out × St) (ih : o.loop 4500 ⟨[.d (.lst xs), .d (.int .i64 k1), .undef, .undef, .undef, .d (.int .i64 i1), .undef, .undef, .undef, .undef, .undef, .undef, .undef, .undef, .undef, .undef, .undef, .undef, .undef, .undef, .undef], [[], [], [], [], [], [], [], [], [], [], [], [], [], [], [], [], [], [], [], [], []]⟩ = some z) : o.loop 4500 ⟨[.d (.lst xs), .d (.int .i64 k0), .undef, .undef, .undef, .d (.int .i64 i), .undef, .undef, .undef, .undef, .undef, .undef, .undef, .undef, .undef, .undef, .undef, .undef, .undef, .undef, .undef], [[], [], [], [], [], [], [], [], [], [], [], [], [], [], [], [], [], [], [], [], []]⟩ = some z := by
  refine ho.loopR ?_
  cbv
  repeat ((first | rw [hn] | rw [h2] | rw [e0] | rw [eq_int ho] | rw [eq_str ho] | rw [K0] | rw [hi] | exact ih); (try cbv))
theorem heldIntS_out (xs : List D) (n k0 : Int) (hn : o.len xs = n) (h2 : o.cmp .lss n n = false) : o.loop 4500 ⟨[.d (.lst xs), .d (.int .i64 k0), .undef, .undef, .undef, .d (.int .i64 n), .undef, .undef, .undef, .undef, .undef, .undef, .undef, .undef, .undef, .undef, .undef, .undef, .undef, .undef, .undef], [[], [], [], [], [], [], [], [], [], [], [], [], [], [], [], [], [], [], [], [], []]⟩ = some (.exit 0, ⟨[.undef, .d (.int .i64 k0), .undef, .undef, .undef, .undef, .undef, .undef, .undef, .undef, .undef, .undef, .undef, .undef, .undef, .undef, .undef, .undef, .undef, .undef, .undef], [[], [], [], [], [], [], [], [], [], [], [], [], [], [], [], [], [], [], [], [], []]⟩) := by
  refine ho.loopR ?_
  cbv
  repeat ((first | rw [hn] | rw [h2]); (try cbv))
theorem heldIntS_ev (xs : List D) (k k2 : Int) (l : o.loop 4500 ⟨[.d (.lst xs), .d (.int .i64 k), .undef, .undef, .undef, .d (.int .i64 0), .undef, .undef, .undef, .undef, .undef, .undef, .undef, .undef, .undef, .undef, .undef, .undef, .undef, .undef, .undef], [[], [], [], [], [], [], [], [], [], [], [], [], [], [], [], [], [], [], [], [], []]⟩ = some (.exit 0, ⟨[.undef, .d (.int .i64 k2), .undef, .undef, .undef, .undef, .undef, .undef, .undef, .undef, .undef, .undef, .undef, .undef, .undef, .undef, .undef, .undef, .undef, .undef, .undef], [[], [], [], [], [], [], [], [], [], [], [], [], [], [], [], [], [], [], [], [], []]⟩)) : o.call 45 [.d (.lst xs), .d (.int .i64 k)] [] = some ⟨.d (.int .i64 k2), [], []⟩ := by
  refine ho.callR ?_
  cbv
  rw [l]
  cbv
theorem heldIntS_loop (xs : List D) (n : Int) (hl : (xs.length : Int) = n) (hm : n ≤ 4611686018427387904) : ∀ (m : Nat) (i k k2 : Int), 0 ≤ i → i + m = n → Chain (HEIntS o) (xs.drop i.toNat) k k2 → o.loop 4500 ⟨[.d (.lst xs), .d (.int .i64 k), .undef, .undef, .undef, .d (.int .i64 i), .undef, .undef, .undef, .undef, .undef, .undef, .undef, .undef, .undef, .undef, .undef, .undef, .undef, .undef, .undef], [[], [], [], [], [], [], [], [], [], [], [], [], [], [], [], [], [], [], [], [], []]⟩ = some (.exit 0, ⟨[.undef, .d (.int .i64 k2), .undef, .undef, .undef, .undef, .undef, .undef, .undef, .undef, .undef, .undef, .undef, .undef, .undef, .undef, .undef, .undef, .undef, .undef, .undef], [[], [], [], [], [], [], [], [], [], [], [], [], [], [], [], [], [], [], [], [], []]⟩)
  | 0, i, k, k2, h0, h, hc => by
    have hi : i = n := by omega
    subst hi
    rw [List.drop_eq_nil_of_le (by omega)] at hc
    simp only [Chain] at hc
    subst hc
    exact heldIntS_out ho xs i k2 (by rw [ho.len]; exact hl) (lt_no ho i)
  | m + 1, i, k, k2, h0, h, hc => by
    obtain ⟨x, hx⟩ : ∃ x, xs[i.toNat]? = some x := ⟨_, List.getElem?_eq_getElem (by omega)⟩
    obtain ⟨g1, g2⟩ := List.getElem?_eq_some_iff.1 hx
    rw [List.drop_eq_getElem_cons g1, g2] at hc
    obtain ⟨k1, hr, hc⟩ := hc
    obtain ⟨rfl, b0, b1, bl, ek⟩ := hr
    rw [ek] at hc
    have ih := heldIntS_loop xs n hl hm m (i + 1) _ k2 (by omega) (by omega) (by rw [show (i + 1).toNat = i.toNat + 1 by omega]; exact hc)
    exact heldIntS_step ho xs n i (i + 1) (k) (k + 1)    (by rw [ho.len]; exact hl) (lt_yes ho (by omega)) (elt_some ho xs i _ h0 hx) (inc2 ho (by omega) (by omega)) (inc2 ho h0 (by omega)) _ ih
theorem markTermS_step (u : Bool) (Y0 Y1 Y2 Y3 Y4 : List D) (n i i1 k0 k1 k2 k3 k4 : Int) (d0 : D) (d1 : D) (d2 : D) (z3 : List D) (t2 : ByteArray) (w3 : List D) 
    (hn : o.len Y0 = n)
    (h2 : o.cmp .lss i n = true)
    (e0 : o.elt Y0 i = some (.agg [d0, d1, d2, .own (75, 4) z3]))
    (K0 : o.ar .add .i64 k0 1 = k1)
    (S0 : o.set Y0 i (.agg [.int .i64 k0, d1, d2, .own (75, 4) z3]) = Y1)
    (e1 : o.elt Y1 i = some (.agg [.int .i64 k0, d1, d2, .own (75, 4) z3]))
    (K1 : o.ar .add .i64 k1 1 = k2)
    (S1 : o.set Y1 i (.agg [.int .i64 k0, .int .i64 k1, d2, .own (75, 4) z3]) = Y2)
    (e2 : o.elt Y2 i = some (.agg [.int .i64 k0, .int .i64 k1, d2, .own (75, 4) z3]))
    (T2 : o.call 70 [.d (.int .i64 k2)] [] = some ⟨.d (.str t2), [], []⟩)
    (K2 : o.ar .add .i64 k2 1 = k3)
    (S2 : o.set Y2 i (.agg [.int .i64 k0, .int .i64 k1, .str t2, .own (75, 4) z3]) = Y3)
    (e3 : o.elt Y3 i = some (.agg [.int .i64 k0, .int .i64 k1, .str t2, .own (75, 4) z3]))
    (C3 : o.call 71 [.arr (1, 0) (75, 4) none false, .d (.int .i64 k3)] [some (.orows (75, 4) z3)] = some ⟨.d (.int .i64 k4), [some (.orows (75, 4) w3)], []⟩)
    (S3 : o.set Y3 i (.agg [.int .i64 k0, .int .i64 k1, .str t2, .own (75, 4) w3]) = Y4)
    (hi : o.ar .add .i64 i 1 = i1) (z : Out × St) (ih : o.loop 7100 ⟨[.arr (42, 0) (75, 4) none u, .d (.int .i64 k4), .undef, .undef, .undef, .d (.int .i64 i1), .undef, .undef, .undef, .undef, .undef, .undef, .undef, .undef, .undef, .undef, .undef, .undef, .undef, .undef, .undef, .undef, .undef, .undef, .undef, .undef, .undef, .undef, .undef, .undef, .undef, .undef, .undef, .undef, .undef, .undef, .undef, .undef, .undef, .undef, .undef, .undef], [[], [], [], [], [], [], [], [], [], [], [], [], [], [], [], [], [], [], [], [], [], [], [], [], [], [], [], [], [], [], [], [], [], [], [], [], [], [], [], [], [], [], [some (.orows (75, 4) Y4)]]⟩ = some z) : o.loop 7100 ⟨[.arr (42, 0) (75, 4) none u, .d (.int .i64 k0), .undef, .undef, .undef, .d (.int .i64 i), .undef, .undef, .undef, .undef, .undef, .undef, .undef, .undef, .undef, .undef, .undef, .undef, .undef, .undef, .undef, .undef, .undef, .undef, .undef, .undef, .undef, .undef, .undef, .undef, .undef, .undef, .undef, .undef, .undef, .undef, .undef, .undef, .undef, .undef, .undef, .undef], [[], [], [], [], [], [], [], [], [], [], [], [], [], [], [], [], [], [], [], [], [], [], [], [], [], [], [], [], [], [], [], [], [], [], [], [], [], [], [], [], [], [], [some (.orows (75, 4) Y0)]]⟩ = some z := by
  refine ho.loopR ?_
  cbv
  repeat ((first | rw [hn] | rw [h2] | rw [e0] | rw [K0] | rw [S0] | rw [e1] | rw [K1] | rw [S1] | rw [e2] | rw [T2] | rw [K2] | rw [S2] | rw [e3] | rw [C3] | rw [S3] | rw [hi] | exact ih); (try cbv))
theorem markTermS_out (u : Bool) (Y0 : List D) (n k0 : Int) (hn : o.len Y0 = n) (h2 : o.cmp .lss n n = false) : o.loop 7100 ⟨[.arr (42, 0) (75, 4) none u, .d (.int .i64 k0), .undef, .undef, .undef, .d (.int .i64 n), .undef, .undef, .undef, .undef, .undef, .undef, .undef, .undef, .undef, .undef, .undef, .undef, .undef, .undef, .undef, .undef, .undef, .undef, .undef, .undef, .undef, .undef, .undef, .undef, .undef, .undef, .undef, .undef, .undef, .undef, .undef, .undef, .undef, .undef, .undef, .undef], [[], [], [], [], [], [], [], [], [], [], [], [], [], [], [], [], [], [], [], [], [], [], [], [], [], [], [], [], [], [], [], [], [], [], [], [], [], [], [], [], [], [], [some (.orows (75, 4) Y0)]]⟩ = some (.exit 0, ⟨[.undef, .d (.int .i64 k0), .undef, .undef, .undef, .undef, .undef, .undef, .undef, .undef, .undef, .undef, .undef, .undef, .undef, .undef, .undef, .undef, .undef, .undef, .undef, .undef, .undef, .undef, .undef, .undef, .undef, .undef, .undef, .undef, .undef, .undef, .undef, .undef, .undef, .undef, .undef, .undef, .undef, .undef, .undef, .undef], [[], [], [], [], [], [], [], [], [], [], [], [], [], [], [], [], [], [], [], [], [], [], [], [], [], [], [], [], [], [], [], [], [], [], [], [], [], [], [], [], [], [], [some (.orows (75, 4) Y0)]]⟩) := by
  refine ho.loopR ?_
  cbv
  repeat ((first | rw [hn] | rw [h2]); (try cbv))
theorem markTermS_ev (u : Bool) (ys zs : List D) (k k2 : Int) (l : o.loop 7100 ⟨[.arr (42, 0) (75, 4) none u, .d (.int .i64 k), .undef, .undef, .undef, .d (.int .i64 0), .undef, .undef, .undef, .undef, .undef, .undef, .undef, .undef, .undef, .undef, .undef, .undef, .undef, .undef, .undef, .undef, .undef, .undef, .undef, .undef, .undef, .undef, .undef, .undef, .undef, .undef, .undef, .undef, .undef, .undef, .undef, .undef, .undef, .undef, .undef, .undef], [[], [], [], [], [], [], [], [], [], [], [], [], [], [], [], [], [], [], [], [], [], [], [], [], [], [], [], [], [], [], [], [], [], [], [], [], [], [], [], [], [], [], [some (.orows (75, 4) ys)]]⟩ = some (.exit 0, ⟨[.undef, .d (.int .i64 k2), .undef, .undef, .undef, .undef, .undef, .undef, .undef, .undef, .undef, .undef, .undef, .undef, .undef, .undef, .undef, .undef, .undef, .undef, .undef, .undef, .undef, .undef, .undef, .undef, .undef, .undef, .undef, .undef, .undef, .undef, .undef, .undef, .undef, .undef, .undef, .undef, .undef, .undef, .undef, .undef], [[], [], [], [], [], [], [], [], [], [], [], [], [], [], [], [], [], [], [], [], [], [], [], [], [], [], [], [], [], [], [], [], [], [], [], [], [], [], [], [], [], [], [some (.orows (75, 4) zs)]]⟩)) : o.call 71 [.arr (1, 0) (75, 4) none u, .d (.int .i64 k)] [some (.orows (75, 4) ys)] = some ⟨.d (.int .i64 k2), [some (.orows (75, 4) zs)], []⟩ := by
  refine ho.callR ?_
  cbv
  rw [l]
  cbv
theorem heldTermS_step (xs : List D) (n i i1 k0 k1 k2 k3 k4 : Int) (t2 : ByteArray) (f3 : List D) 
    (hn : o.len xs = n)
    (h2 : o.cmp .lss i n = true)
    (e0 : o.elt xs i = some (.agg [.int .i64 k0, .int .i64 k1, .str t2, .lst f3]))
    (K0 : o.ar .add .i64 k0 1 = k1)
    (K1 : o.ar .add .i64 k1 1 = k2)
    (T2 : o.call 70 [.d (.int .i64 k2)] [] = some ⟨.d (.str t2), [], []⟩)
    (K2 : o.ar .add .i64 k2 1 = k3)
    (C3 : o.call 72 [.d (.lst f3), .d (.int .i64 k3)] [] = some ⟨.d (.int .i64 k4), [], []⟩)
    (N3 : o.cmp .lss k4 0 = false)
    (hi : o.ar .add .i64 i 1 = i1) (z : Out × St) (ih : o.loop 7200 ⟨[.d (.lst xs), .d (.int .i64 k4), .undef, .undef, .undef, .d (.int .i64 i1), .undef, .undef, .undef, .undef, .undef, .undef, .undef, .undef, .undef, .undef, .undef, .undef, .undef, .undef, .undef, .undef, .undef, .undef, .undef, .undef, .undef, .undef, .undef, .undef, .undef, .undef, .undef, .undef, .undef, .undef, .undef, .undef, .undef, .undef, .undef, .undef, .undef, .undef, .undef, .undef, .undef, .undef, .undef, .undef], [[], [], [], [], [], [], [], [], [], [], [], [], [], [], [], [], [], [], [], [], [], [], [], [], [], [], [], [], [], [], [], [], [], [], [], [], [], [], [], [], [], [], [], [], [], [], [], [], [], []]⟩ = some z) : o.loop 7200 ⟨[.d (.lst xs), .d (.int .i64 k0), .undef, .undef, .undef, .d (.int .i64 i), .undef, .undef, .undef, .undef, .undef, .undef, .undef, .undef, .undef, .undef, .undef, .undef, .undef, .undef, .undef, .undef, .undef, .undef, .undef, .undef, .undef, .undef, .undef, .undef, .undef, .undef, .undef, .undef, .undef, .undef, .undef, .undef, .undef, .undef, .undef, .undef, .undef, .undef, .undef, .undef, .undef, .undef, .undef, .undef], [[], [], [], [], [], [], [], [], [], [], [], [], [], [], [], [], [], [], [], [], [], [], [], [], [], [], [], [], [], [], [], [], [], [], [], [], [], [], [], [], [], [], [], [], [], [], [], [], [], []]⟩ = some z := by
  refine ho.loopR ?_
  cbv
  repeat ((first | rw [hn] | rw [h2] | rw [e0] | rw [eq_int ho] | rw [eq_str ho] | rw [K0] | rw [K1] | rw [T2] | rw [K2] | rw [C3] | rw [N3] | rw [hi] | exact ih); (try cbv))
theorem heldTermS_out (xs : List D) (n k0 : Int) (hn : o.len xs = n) (h2 : o.cmp .lss n n = false) : o.loop 7200 ⟨[.d (.lst xs), .d (.int .i64 k0), .undef, .undef, .undef, .d (.int .i64 n), .undef, .undef, .undef, .undef, .undef, .undef, .undef, .undef, .undef, .undef, .undef, .undef, .undef, .undef, .undef, .undef, .undef, .undef, .undef, .undef, .undef, .undef, .undef, .undef, .undef, .undef, .undef, .undef, .undef, .undef, .undef, .undef, .undef, .undef, .undef, .undef, .undef, .undef, .undef, .undef, .undef, .undef, .undef, .undef], [[], [], [], [], [], [], [], [], [], [], [], [], [], [], [], [], [], [], [], [], [], [], [], [], [], [], [], [], [], [], [], [], [], [], [], [], [], [], [], [], [], [], [], [], [], [], [], [], [], []]⟩ = some (.exit 0, ⟨[.undef, .d (.int .i64 k0), .undef, .undef, .undef, .undef, .undef, .undef, .undef, .undef, .undef, .undef, .undef, .undef, .undef, .undef, .undef, .undef, .undef, .undef, .undef, .undef, .undef, .undef, .undef, .undef, .undef, .undef, .undef, .undef, .undef, .undef, .undef, .undef, .undef, .undef, .undef, .undef, .undef, .undef, .undef, .undef, .undef, .undef, .undef, .undef, .undef, .undef, .undef, .undef], [[], [], [], [], [], [], [], [], [], [], [], [], [], [], [], [], [], [], [], [], [], [], [], [], [], [], [], [], [], [], [], [], [], [], [], [], [], [], [], [], [], [], [], [], [], [], [], [], [], []]⟩) := by
  refine ho.loopR ?_
  cbv
  repeat ((first | rw [hn] | rw [h2]); (try cbv))
theorem heldTermS_ev (xs : List D) (k k2 : Int) (l : o.loop 7200 ⟨[.d (.lst xs), .d (.int .i64 k), .undef, .undef, .undef, .d (.int .i64 0), .undef, .undef, .undef, .undef, .undef, .undef, .undef, .undef, .undef, .undef, .undef, .undef, .undef, .undef, .undef, .undef, .undef, .undef, .undef, .undef, .undef, .undef, .undef, .undef, .undef, .undef, .undef, .undef, .undef, .undef, .undef, .undef, .undef, .undef, .undef, .undef, .undef, .undef, .undef, .undef, .undef, .undef, .undef, .undef], [[], [], [], [], [], [], [], [], [], [], [], [], [], [], [], [], [], [], [], [], [], [], [], [], [], [], [], [], [], [], [], [], [], [], [], [], [], [], [], [], [], [], [], [], [], [], [], [], [], []]⟩ = some (.exit 0, ⟨[.undef, .d (.int .i64 k2), .undef, .undef, .undef, .undef, .undef, .undef, .undef, .undef, .undef, .undef, .undef, .undef, .undef, .undef, .undef, .undef, .undef, .undef, .undef, .undef, .undef, .undef, .undef, .undef, .undef, .undef, .undef, .undef, .undef, .undef, .undef, .undef, .undef, .undef, .undef, .undef, .undef, .undef, .undef, .undef, .undef, .undef, .undef, .undef, .undef, .undef, .undef, .undef], [[], [], [], [], [], [], [], [], [], [], [], [], [], [], [], [], [], [], [], [], [], [], [], [], [], [], [], [], [], [], [], [], [], [], [], [], [], [], [], [], [], [], [], [], [], [], [], [], [], []]⟩)) : o.call 72 [.d (.lst xs), .d (.int .i64 k)] [] = some ⟨.d (.int .i64 k2), [], []⟩ := by
  refine ho.callR ?_
  cbv
  rw [l]
  cbv
theorem heldTermS_loop (xs : List D) (n : Int) (hl : (xs.length : Int) = n) (hm : n ≤ 4611686018427387904) : ∀ (m : Nat) (i k k2 : Int), 0 ≤ i → i + m = n → Chain (HETermS o) (xs.drop i.toNat) k k2 → o.loop 7200 ⟨[.d (.lst xs), .d (.int .i64 k), .undef, .undef, .undef, .d (.int .i64 i), .undef, .undef, .undef, .undef, .undef, .undef, .undef, .undef, .undef, .undef, .undef, .undef, .undef, .undef, .undef, .undef, .undef, .undef, .undef, .undef, .undef, .undef, .undef, .undef, .undef, .undef, .undef, .undef, .undef, .undef, .undef, .undef, .undef, .undef, .undef, .undef, .undef, .undef, .undef, .undef, .undef, .undef, .undef, .undef], [[], [], [], [], [], [], [], [], [], [], [], [], [], [], [], [], [], [], [], [], [], [], [], [], [], [], [], [], [], [], [], [], [], [], [], [], [], [], [], [], [], [], [], [], [], [], [], [], [], []]⟩ = some (.exit 0, ⟨[.undef, .d (.int .i64 k2), .undef, .undef, .undef, .undef, .undef, .undef, .undef, .undef, .undef, .undef, .undef, .undef, .undef, .undef, .undef, .undef, .undef, .undef, .undef, .undef, .undef, .undef, .undef, .undef, .undef, .undef, .undef, .undef, .undef, .undef, .undef, .undef, .undef, .undef, .undef, .undef, .undef, .undef, .undef, .undef, .undef, .undef, .undef, .undef, .undef, .undef, .undef, .undef], [[], [], [], [], [], [], [], [], [], [], [], [], [], [], [], [], [], [], [], [], [], [], [], [], [], [], [], [], [], [], [], [], [], [], [], [], [], [], [], [], [], [], [], [], [], [], [], [], [], []]⟩)
  | 0, i, k, k2, h0, h, hc => by
    have hi : i = n := by omega
    subst hi
    rw [List.drop_eq_nil_of_le (by omega)] at hc
    simp only [Chain] at hc
    subst hc
    exact heldTermS_out ho xs i k2 (by rw [ho.len]; exact hl) (lt_no ho i)
  | m + 1, i, k, k2, h0, h, hc => by
    obtain ⟨x, hx⟩ : ∃ x, xs[i.toNat]? = some x := ⟨_, List.getElem?_eq_getElem (by omega)⟩
    obtain ⟨g1, g2⟩ := List.getElem?_eq_some_iff.1 hx
    rw [List.drop_eq_getElem_cons g1, g2] at hc
    obtain ⟨k1, hr, hc⟩ := hc
    obtain ⟨t2, f3, j3, rfl, c0, c1, b0, b1, b2, b3, bl, ek⟩ := hr
    rw [ek] at hc
    have ih := heldTermS_loop xs n hl hm m (i + 1) _ k2 (by omega) (by omega) (by rw [show (i + 1).toNat = i.toNat + 1 by omega]; exact hc)
    exact heldTermS_step ho xs n i (i + 1) (k) (k + 1) (k + 1 + 1) (k + 1 + 1 + 1) (j3) t2 f3  (by rw [ho.len]; exact hl) (lt_yes ho (by omega)) (elt_some ho xs i _ h0 hx) (inc2 ho (by omega) (by omega)) (inc2 ho (by omega) (by omega)) c0 (inc2 ho (by omega) (by omega)) c1 (nneg ho (by omega)) (inc2 ho h0 (by omega)) _ ih
theorem markKidS_loop (mt : MT o) (u : Bool) : ∀ (m : Nat) (i k : Int) (ys : List D), 0 ≤ i → i + m = ys.length → (ys.length : Int) ≤ 4611686018427387904 → (∀ j, i.toNat ≤ j → ∀ y, ys[j]? = some y → EMKidS o y) → 0 ≤ k → k + 32 * (m + cntL (ys.drop i.toNat)) ≤ 4611686018427387904 →
    ∃ zs k2, o.loop 4200 ⟨[.arr (69, 0) (97, 7) none u, .d (.int .i64 k), .undef, .undef, .undef, .d (.int .i64 i), .undef, .undef, .undef, .undef, .undef, .undef, .undef, .undef, .undef, .undef, .undef, .undef, .undef, .undef, .undef, .undef, .undef, .undef, .undef, .undef, .undef, .undef, .undef, .undef, .undef, .undef, .undef, .undef, .undef, .undef, .undef, .undef, .undef, .undef, .undef, .undef, .undef, .undef, .undef, .undef, .undef, .undef, .undef, .undef, .undef, .undef, .undef, .undef, .undef, .undef, .undef, .undef, .undef, .undef, .undef, .undef, .undef, .undef, .undef, .undef, .undef, .undef, .undef], [[], [], [], [], [], [], [], [], [], [], [], [], [], [], [], [], [], [], [], [], [], [], [], [], [], [], [], [], [], [], [], [], [], [], [], [], [], [], [], [], [], [], [], [], [], [], [], [], [], [], [], [], [], [], [], [], [], [], [], [], [], [], [], [], [], [], [], [], [], [some (.orows (97, 7) ys)]]⟩ = some (.exit 0, ⟨[.undef, .d (.int .i64 k2), .undef, .undef, .undef, .undef, .undef, .undef, .undef, .undef, .undef, .undef, .undef, .undef, .undef, .undef, .undef, .undef, .undef, .undef, .undef, .undef, .undef, .undef, .undef, .undef, .undef, .undef, .undef, .undef, .undef, .undef, .undef, .undef, .undef, .undef, .undef, .undef, .undef, .undef, .undef, .undef, .undef, .undef, .undef, .undef, .undef, .undef, .undef, .undef, .undef, .undef, .undef, .undef, .undef, .undef, .undef, .undef, .undef, .undef, .undef, .undef, .undef, .undef, .undef, .undef, .undef, .undef, .undef], [[], [], [], [], [], [], [], [], [], [], [], [], [], [], [], [], [], [], [], [], [], [], [], [], [], [], [], [], [], [], [], [], [], [], [], [], [], [], [], [], [], [], [], [], [], [], [], [], [], [], [], [], [], [], [], [], [], [], [], [], [], [], [], [], [], [], [], [], [], [some (.orows (97, 7) zs)]]⟩) ∧ zs.length = ys.length ∧ (∀ j, j < i.toNat → zs[j]? = ys[j]?) ∧ Chain (HEKidS o) (frozeL (zs.drop i.toNat)) k k2 ∧ k ≤ k2 ∧ k2 ≤ k + 32 * (m + cntL (ys.drop i.toNat))
  | 0, i, k, ys, h0, h, hb, hd, g0, g1 => by
    have hi : i = (ys.length : Int) := by omega
    refine ⟨ys, k, ?_, rfl, fun _ _ => rfl, ?_, Int.le_refl _, ?_⟩
    · exact markKidS_out ho u ys i k (by rw [ho.len]; exact hi.symm) (lt_no ho i)
    · rw [List.drop_eq_nil_of_le (by omega)]; simp only [frozeL, Chain]
    · have := cntL_nn (ys.drop i.toNat); omega
  | m + 1, i, k, ys, h0, h, hb, hd, g0, g1 => by
    have hk : i.toNat < ys.length := by omega
    obtain ⟨y, hyk⟩ : ∃ y, ys[i.toNat]? = some y := ⟨_, List.getElem?_eq_getElem hk⟩
    have hcd := cntL_drop hyk
    have hnn := cntL_nn (ys.drop (i.toNat + 1))
    obtain ⟨d0, d1, d2, d3, d4, z5, d6, rfl, x0, x1, x2, x3, x4, x5, M0⟩ := hd i.toNat (Nat.le_refl _) y hyk
    simp only [cnt, cntL, x0, x1, x2, x3, x4, x5] at hcd
    have hz5 := cntL_nn z5
    obtain ⟨t0, T0⟩ := mt (k) (by omega) (by omega)
    obtain ⟨t1, T1⟩ := mt (k + 1) (by omega) (by omega)
    obtain ⟨t4, T4⟩ := mt (k + 1 + 1 + 1 + 1) (by omega) (by omega)
    obtain ⟨w5, j5, C5, H5, l5, v5⟩ := M0 (k + 1 + 1 + 1 + 1 + 1) (by omega) (by simp only [cnt]; omega)
    simp only [cnt] at v5
    have hdr : (o.set ys i (.agg [.str t0, .str t1, .int .i64 (k + 1 + 1), .int .i64 (k + 1 + 1 + 1), .str t4, .own (75, 4) w5, .int .i64 (j5)])).drop (i + 1).toNat = ys.drop (i.toNat + 1) := by rw [ho.set, show (i + 1).toNat = i.toNat + 1 by omega, List.drop_set_of_lt (by omega)]
    obtain ⟨zs, k2, i1, i2, i3, i4, i5, i6⟩ := markKidS_loop mt u m (i + 1) (j5 + 1) (o.set ys i (.agg [.str t0, .str t1, .int .i64 (k + 1 + 1), .int .i64 (k + 1 + 1 + 1), .str t4, .own (75, 4) w5, .int .i64 (j5)])) (by omega) (by rw [set_len ho]; omega) (by rw [set_len ho]; exact hb) (fun j hj y hy => hd j (by omega) y (by rw [ho.set, List.getElem?_set_ne (by omega)] at hy; exact hy)) (by omega) (by rw [hdr]; omega)
    rw [hdr] at i6
    rw [set_len ho] at i2
    refine ⟨zs, k2, markKidS_step ho u ys (o.set ys i (.agg [.str t0, d1, d2, d3, d4, .own (75, 4) z5, d6])) (o.set (o.set ys i (.agg [.str t0, d1, d2, d3, d4, .own (75, 4) z5, d6])) i (.agg [.str t0, .str t1, d2, d3, d4, .own (75, 4) z5, d6])) (o.set (o.set (o.set ys i (.agg [.str t0, d1, d2, d3, d4, .own (75, 4) z5, d6])) i (.agg [.str t0, .str t1, d2, d3, d4, .own (75, 4) z5, d6])) i (.agg [.str t0, .str t1, .int .i64 (k + 1 + 1), d3, d4, .own (75, 4) z5, d6])) (o.set (o.set (o.set (o.set ys i (.agg [.str t0, d1, d2, d3, d4, .own (75, 4) z5, d6])) i (.agg [.str t0, .str t1, d2, d3, d4, .own (75, 4) z5, d6])) i (.agg [.str t0, .str t1, .int .i64 (k + 1 + 1), d3, d4, .own (75, 4) z5, d6])) i (.agg [.str t0, .str t1, .int .i64 (k + 1 + 1), .int .i64 (k + 1 + 1 + 1), d4, .own (75, 4) z5, d6])) (o.set (o.set (o.set (o.set (o.set ys i (.agg [.str t0, d1, d2, d3, d4, .own (75, 4) z5, d6])) i (.agg [.str t0, .str t1, d2, d3, d4, .own (75, 4) z5, d6])) i (.agg [.str t0, .str t1, .int .i64 (k + 1 + 1), d3, d4, .own (75, 4) z5, d6])) i (.agg [.str t0, .str t1, .int .i64 (k + 1 + 1), .int .i64 (k + 1 + 1 + 1), d4, .own (75, 4) z5, d6])) i (.agg [.str t0, .str t1, .int .i64 (k + 1 + 1), .int .i64 (k + 1 + 1 + 1), .str t4, .own (75, 4) z5, d6])) (o.set (o.set (o.set (o.set (o.set (o.set ys i (.agg [.str t0, d1, d2, d3, d4, .own (75, 4) z5, d6])) i (.agg [.str t0, .str t1, d2, d3, d4, .own (75, 4) z5, d6])) i (.agg [.str t0, .str t1, .int .i64 (k + 1 + 1), d3, d4, .own (75, 4) z5, d6])) i (.agg [.str t0, .str t1, .int .i64 (k + 1 + 1), .int .i64 (k + 1 + 1 + 1), d4, .own (75, 4) z5, d6])) i (.agg [.str t0, .str t1, .int .i64 (k + 1 + 1), .int .i64 (k + 1 + 1 + 1), .str t4, .own (75, 4) z5, d6])) i (.agg [.str t0, .str t1, .int .i64 (k + 1 + 1), .int .i64 (k + 1 + 1 + 1), .str t4, .own (75, 4) w5, d6])) (o.set ys i (.agg [.str t0, .str t1, .int .i64 (k + 1 + 1), .int .i64 (k + 1 + 1 + 1), .str t4, .own (75, 4) w5, .int .i64 (j5)])) _ i (i + 1) (k) (k + 1) (k + 1 + 1) (k + 1 + 1 + 1) (k + 1 + 1 + 1 + 1) (k + 1 + 1 + 1 + 1 + 1) (j5) (j5 + 1) d0 d1 d2 d3 d4 z5 d6 t0 t1 t4 w5  rfl (lt_yes ho (by rw [ho.len]; omega)) (elt_some ho ys i _ h0 hyk) T0 (inc2 ho (by omega) (by omega)) rfl (elt_set ho h0 (by first | exact hk | (simp only [set_len ho]; exact hk))) T1 (inc2 ho (by omega) (by omega)) rfl (elt_set ho h0 (by first | exact hk | (simp only [set_len ho]; exact hk))) (inc2 ho (by omega) (by omega)) rfl (elt_set ho h0 (by first | exact hk | (simp only [set_len ho]; exact hk))) (inc2 ho (by omega) (by omega)) rfl (elt_set ho h0 (by first | exact hk | (simp only [set_len ho]; exact hk))) T4 (inc2 ho (by omega) (by omega)) rfl (elt_set ho h0 (by first | exact hk | (simp only [set_len ho]; exact hk))) C5 rfl (elt_set ho h0 (by first | exact hk | (simp only [set_len ho]; exact hk))) (inc2 ho (by omega) (by omega)) (by first | rfl | simp only [set_set ho]) (inc2 ho h0 (by omega)) _ i1, i2, fun j hj => by rw [i3 j (by omega), ho.set, List.getElem?_set_ne (by omega)], ?_, by omega, by omega⟩
    have hz : zs[i.toNat]? = some (.agg [.str t0, .str t1, .int .i64 (k + 1 + 1), .int .i64 (k + 1 + 1 + 1), .str t4, .own (75, 4) w5, .int .i64 (j5)]) := by rw [i3 _ (by omega), ho.set, List.getElem?_set_self (by omega)]
    obtain ⟨p1, p2⟩ := List.getElem?_eq_some_iff.1 hz
    rw [List.drop_eq_getElem_cons p1, p2]
    rw [show (i + 1).toNat = i.toNat + 1 by omega] at i4
    simp only [frozeL, frozeD]
    exact ⟨_, ⟨t0, t1, t4, frozeL w5, j5, rfl, T0, T1, T4, H5, by omega, by omega, by omega, by omega, by omega, rfl⟩, i4⟩
theorem markIntS_loop (mt : MT o) (u : Bool) : ∀ (m : Nat) (i k : Int) (ys : List D), 0 ≤ i → i + m = ys.length → (ys.length : Int) ≤ 4611686018427387904 → (∀ j, i.toNat ≤ j → ∀ y, ys[j]? = some y → EMIntS o y) → 0 ≤ k → k + 32 * (m + cntL (ys.drop i.toNat)) ≤ 4611686018427387904 →
    ∃ zs k2, o.loop 4300 ⟨[.arr (19, 0) (3, 1) none u, .d (.int .i64 k), .undef, .undef, .undef, .d (.int .i64 i), .undef, .undef, .undef, .undef, .undef, .undef, .undef, .undef, .undef, .undef, .undef, .undef, .undef], [[], [], [], [], [], [], [], [], [], [], [], [], [], [], [], [], [], [], [], [some (.rows (3, 1) ys)]]⟩ = some (.exit 0, ⟨[.undef, .d (.int .i64 k2), .undef, .undef, .undef, .undef, .undef, .undef, .undef, .undef, .undef, .undef, .undef, .undef, .undef, .undef, .undef, .undef, .undef], [[], [], [], [], [], [], [], [], [], [], [], [], [], [], [], [], [], [], [], [some (.rows (3, 1) zs)]]⟩) ∧ zs.length = ys.length ∧ (∀ j, j < i.toNat → zs[j]? = ys[j]?) ∧ Chain (HEIntS o) (zs.drop i.toNat) k k2 ∧ k ≤ k2 ∧ k2 ≤ k + 32 * (m + cntL (ys.drop i.toNat))
  | 0, i, k, ys, h0, h, hb, hd, g0, g1 => by
    have hi : i = (ys.length : Int) := by omega
    refine ⟨ys, k, ?_, rfl, fun _ _ => rfl, ?_, Int.le_refl _, ?_⟩
    · exact markIntS_out ho u ys i k (by rw [ho.len]; exact hi.symm) (lt_no ho i)
    · rw [List.drop_eq_nil_of_le (by omega)]; simp only [Chain]
    · have := cntL_nn (ys.drop i.toNat); omega
  | m + 1, i, k, ys, h0, h, hb, hd, g0, g1 => by
    have hk : i.toNat < ys.length := by omega
    obtain ⟨y, hyk⟩ : ∃ y, ys[i.toNat]? = some y := ⟨_, List.getElem?_eq_getElem hk⟩
    have hcd := cntL_drop hyk
    have hnn := cntL_nn (ys.drop (i.toNat + 1))
    obtain ⟨d0, rfl⟩ := hd i.toNat (Nat.le_refl _) y hyk
    simp only [cnt, cntL] at hcd
    have hdr : (o.set ys i (.int .i64 (k))).drop (i + 1).toNat = ys.drop (i.toNat + 1) := by rw [ho.set, show (i + 1).toNat = i.toNat + 1 by omega, List.drop_set_of_lt (by omega)]
    obtain ⟨zs, k2, i1, i2, i3, i4, i5, i6⟩ := markIntS_loop mt u m (i + 1) (k + 1) (o.set ys i (.int .i64 (k))) (by omega) (by rw [set_len ho]; omega) (by rw [set_len ho]; exact hb) (fun j hj y hy => hd j (by omega) y (by rw [ho.set, List.getElem?_set_ne (by omega)] at hy; exact hy)) (by omega) (by rw [hdr]; omega)
    rw [hdr] at i6
    rw [set_len ho] at i2
    refine ⟨zs, k2, markIntS_step ho u ys (o.set ys i (.int .i64 (k))) _ i (i + 1) (k) (k + 1) d0    rfl (lt_yes ho (by rw [ho.len]; omega)) (elt_some ho ys i _ h0 hyk) (inc2 ho (by omega) (by omega)) (by first | rfl | simp only [set_set ho]) (inc2 ho h0 (by omega)) _ i1, i2, fun j hj => by rw [i3 j (by omega), ho.set, List.getElem?_set_ne (by omega)], ?_, by omega, by omega⟩
    have hz : zs[i.toNat]? = some (.int .i64 (k)) := by rw [i3 _ (by omega), ho.set, List.getElem?_set_self (by omega)]
    obtain ⟨p1, p2⟩ := List.getElem?_eq_some_iff.1 hz
    rw [List.drop_eq_getElem_cons p1, p2]
    rw [show (i + 1).toNat = i.toNat + 1 by omega] at i4
    exact ⟨_, ⟨rfl, by omega, by omega, by omega, rfl⟩, i4⟩
theorem markTermS_loop (mt : MT o) (u : Bool) : ∀ (m : Nat) (i k : Int) (ys : List D), 0 ≤ i → i + m = ys.length → (ys.length : Int) ≤ 4611686018427387904 → (∀ j, i.toNat ≤ j → ∀ y, ys[j]? = some y → EMTermS o y) → 0 ≤ k → k + 32 * (m + cntL (ys.drop i.toNat)) ≤ 4611686018427387904 →
    ∃ zs k2, o.loop 7100 ⟨[.arr (42, 0) (75, 4) none u, .d (.int .i64 k), .undef, .undef, .undef, .d (.int .i64 i), .undef, .undef, .undef, .undef, .undef, .undef, .undef, .undef, .undef, .undef, .undef, .undef, .undef, .undef, .undef, .undef, .undef, .undef, .undef, .undef, .undef, .undef, .undef, .undef, .undef, .undef, .undef, .undef, .undef, .undef, .undef, .undef, .undef, .undef, .undef, .undef], [[], [], [], [], [], [], [], [], [], [], [], [], [], [], [], [], [], [], [], [], [], [], [], [], [], [], [], [], [], [], [], [], [], [], [], [], [], [], [], [], [], [], [some (.orows (75, 4) ys)]]⟩ = some (.exit 0, ⟨[.undef, .d (.int .i64 k2), .undef, .undef, .undef, .undef, .undef, .undef, .undef, .undef, .undef, .undef, .undef, .undef, .undef, .undef, .undef, .undef, .undef, .undef, .undef, .undef, .undef, .undef, .undef, .undef, .undef, .undef, .undef, .undef, .undef, .undef, .undef, .undef, .undef, .undef, .undef, .undef, .undef, .undef, .undef, .undef], [[], [], [], [], [], [], [], [], [], [], [], [], [], [], [], [], [], [], [], [], [], [], [], [], [], [], [], [], [], [], [], [], [], [], [], [], [], [], [], [], [], [], [some (.orows (75, 4) zs)]]⟩) ∧ zs.length = ys.length ∧ (∀ j, j < i.toNat → zs[j]? = ys[j]?) ∧ Chain (HETermS o) (frozeL (zs.drop i.toNat)) k k2 ∧ k ≤ k2 ∧ k2 ≤ k + 32 * (m + cntL (ys.drop i.toNat))
  | 0, i, k, ys, h0, h, hb, hd, g0, g1 => by
    have hi : i = (ys.length : Int) := by omega
    refine ⟨ys, k, ?_, rfl, fun _ _ => rfl, ?_, Int.le_refl _, ?_⟩
    · exact markTermS_out ho u ys i k (by rw [ho.len]; exact hi.symm) (lt_no ho i)
    · rw [List.drop_eq_nil_of_le (by omega)]; simp only [frozeL, Chain]
    · have := cntL_nn (ys.drop i.toNat); omega
  | m + 1, i, k, ys, h0, h, hb, hd, g0, g1 => by
    have hk : i.toNat < ys.length := by omega
    obtain ⟨y, hyk⟩ : ∃ y, ys[i.toNat]? = some y := ⟨_, List.getElem?_eq_getElem hk⟩
    have hcd := cntL_drop hyk
    have hnn := cntL_nn (ys.drop (i.toNat + 1))
    obtain ⟨d0, d1, d2, z3, rfl, x0, x1, x2, M0⟩ := hd i.toNat (Nat.le_refl _) y hyk
    simp only [cnt, cntL, x0, x1, x2] at hcd
    have hz3 := cntL_nn z3
    obtain ⟨t2, T2⟩ := mt (k + 1 + 1) (by omega) (by omega)
    obtain ⟨w3, j3, C3, H3, l3, v3⟩ := M0 (k + 1 + 1 + 1) (by omega) (by simp only [cnt]; omega)
    simp only [cnt] at v3
    have hdr : (o.set ys i (.agg [.int .i64 (k), .int .i64 (k + 1), .str t2, .own (75, 4) w3])).drop (i + 1).toNat = ys.drop (i.toNat + 1) := by rw [ho.set, show (i + 1).toNat = i.toNat + 1 by omega, List.drop_set_of_lt (by omega)]
    obtain ⟨zs, k2, i1, i2, i3, i4, i5, i6⟩ := markTermS_loop mt u m (i + 1) (j3) (o.set ys i (.agg [.int .i64 (k), .int .i64 (k + 1), .str t2, .own (75, 4) w3])) (by omega) (by rw [set_len ho]; omega) (by rw [set_len ho]; exact hb) (fun j hj y hy => hd j (by omega) y (by rw [ho.set, List.getElem?_set_ne (by omega)] at hy; exact hy)) (by omega) (by rw [hdr]; omega)
    rw [hdr] at i6
    rw [set_len ho] at i2
    refine ⟨zs, k2, markTermS_step ho u ys (o.set ys i (.agg [.int .i64 (k), d1, d2, .own (75, 4) z3])) (o.set (o.set ys i (.agg [.int .i64 (k), d1, d2, .own (75, 4) z3])) i (.agg [.int .i64 (k), .int .i64 (k + 1), d2, .own (75, 4) z3])) (o.set (o.set (o.set ys i (.agg [.int .i64 (k), d1, d2, .own (75, 4) z3])) i (.agg [.int .i64 (k), .int .i64 (k + 1), d2, .own (75, 4) z3])) i (.agg [.int .i64 (k), .int .i64 (k + 1), .str t2, .own (75, 4) z3])) (o.set ys i (.agg [.int .i64 (k), .int .i64 (k + 1), .str t2, .own (75, 4) w3])) _ i (i + 1) (k) (k + 1) (k + 1 + 1) (k + 1 + 1 + 1) (j3) d0 d1 d2 z3 t2 w3  rfl (lt_yes ho (by rw [ho.len]; omega)) (elt_some ho ys i _ h0 hyk) (inc2 ho (by omega) (by omega)) rfl (elt_set ho h0 (by first | exact hk | (simp only [set_len ho]; exact hk))) (inc2 ho (by omega) (by omega)) rfl (elt_set ho h0 (by first | exact hk | (simp only [set_len ho]; exact hk))) T2 (inc2 ho (by omega) (by omega)) rfl (elt_set ho h0 (by first | exact hk | (simp only [set_len ho]; exact hk))) C3 (by first | rfl | simp only [set_set ho]) (inc2 ho h0 (by omega)) _ i1, i2, fun j hj => by rw [i3 j (by omega), ho.set, List.getElem?_set_ne (by omega)], ?_, by omega, by omega⟩
    have hz : zs[i.toNat]? = some (.agg [.int .i64 (k), .int .i64 (k + 1), .str t2, .own (75, 4) w3]) := by rw [i3 _ (by omega), ho.set, List.getElem?_set_self (by omega)]
    obtain ⟨p1, p2⟩ := List.getElem?_eq_some_iff.1 hz
    rw [List.drop_eq_getElem_cons p1, p2]
    rw [show (i + 1).toNat = i.toNat + 1 by omega] at i4
    simp only [frozeL, frozeD]
    exact ⟨_, ⟨t2, frozeL w3, j3, rfl, T2, H3, by omega, by omega, by omega, by omega, by omega, rfl⟩, i4⟩
theorem markKidS (mt : MT o) {n : Nat} (ih : MarkAll o n) : MarkKidS o (n + 1) := by
  intro ys h k u g0 g1
  obtain ⟨xs, m, em, e_, hlen, hall⟩ := own_lst Try.underlying27 co97 h
  injection em with em
  subst em
  injection e_ with e_
  injection e_ with _ e_
  subst e_
  have hd : ∀ j, (0 : Int).toNat ≤ j → ∀ y, ys[j]? = some y → EMKidS o y := by
    intro j _ y hy
    obtain ⟨f1, f2⟩ := hall y (List.mem_of_getElem? hy)
    rw [show aggT Try.prog 97 = true by unfold aggT; rw [Try.underlying97]] at f2
    cases n with
    | zero => simp [Own] at f1
    | succ n =>
      obtain ⟨a_0, a_1, a_2, a_3, a_4, a_5, a_6, e, g_0, g_1, g_2, g_3⟩ := own97 f1
      obtain ⟨v_0, e_, _⟩ := own_str Try.underlying9 g_0
      injection e_ with e_; subst e_
      obtain ⟨v_1, e_, _⟩ := own_str Try.underlying9 g_1
      injection e_ with e_; subst e_
      have g_2x := own_mono _ _ _ g_2
      obtain ⟨a_2_0, a_2_1, a_2_2, a_2_3, e_2, g_2_0, g_2_1, g_2_2, g_2_3⟩ := own75 g_2x
      simp only [List.cons.injEq, and_true] at e_2
      obtain ⟨rfl, rfl, rfl, rfl⟩ := e_2
      obtain ⟨v_2_0, e_, _⟩ := own_int Try.underlying3 g_2_0
      injection e_ with e_; subst e_
      obtain ⟨v_2_1, e_, _⟩ := own_int Try.underlying3 g_2_1
      injection e_ with e_; subst e_
      obtain ⟨v_2_2, e_, _⟩ := own_str Try.underlying9 g_2_2
      injection e_ with e_; subst e_
      have Qz_2_3 := g_2_3
      obtain ⟨z_2_3, _, _, e_, _⟩ := own_lst Try.underlying73 co75 g_2_3
      injection e_ with e_; subst e_
      have Qz_2_3 := own_mono _ _ _ Qz_2_3
      obtain ⟨v_3, e_, _⟩ := own_int Try.underlying3 g_3
      injection e_ with e_; subst e_
      exact ⟨_, _, _, _, _, z_2_3, _, by rw [many_agg f2, e], rfl, rfl, rfl, rfl, rfl, rfl, fun k g0 g1 => (ih.2.2) z_2_3 Qz_2_3 k false g0 g1⟩
  simp only [cnt] at g1 ⊢
  have hnn := cntL_nn ys
  obtain ⟨zs, k2, i1, i2, i3, i4, i5, i6⟩ := markKidS_loop ho mt u ys.length 0 k ys (Int.le_refl _) (by omega) (by omega) hd g0 (by simpa using g1)
  refine ⟨zs, k2, markKidS_ev ho u ys zs k k2 i1, heldKidS_ev ho _ k k2 (heldKidS_loop ho _ (zs.length : Int) (by rw [frozeL_len]) (by omega) zs.length 0 k k2 (Int.le_refl _) (by omega) (by simpa using i4)), i5, by simpa using i6⟩
theorem markIntS (mt : MT o) {n : Nat} : MarkIntS o n := by
  intro ys h hlen k u g0 g1
  have hd : ∀ j, (0 : Int).toNat ≤ j → ∀ y, ys[j]? = some y → EMIntS o y := fun j _ y hy => by
    obtain ⟨i, e⟩ := h y (List.mem_of_getElem? hy)
    exact ⟨i, e⟩
  simp only [cnt] at g1 ⊢
  have hnn := cntL_nn ys
  obtain ⟨zs, k2, i1, i2, i3, i4, i5, i6⟩ := markIntS_loop ho mt u ys.length 0 k ys (Int.le_refl _) (by omega) (by omega) hd g0 (by simpa using g1)
  refine ⟨zs, k2, markIntS_ev ho u ys zs k k2 i1, heldIntS_ev ho _ k k2 (heldIntS_loop ho _ (zs.length : Int) rfl (by omega) zs.length 0 k k2 (Int.le_refl _) (by omega) (by simpa using i4)), i5, by simpa using i6⟩
theorem markTermS (mt : MT o) {n : Nat} (ih : MarkAll o n) : MarkTermS o (n + 1) := by
  intro ys h k u g0 g1
  obtain ⟨xs, m, em, e_, hlen, hall⟩ := own_lst Try.underlying73 co75 h
  injection em with em
  subst em
  injection e_ with e_
  injection e_ with _ e_
  subst e_
  have hd : ∀ j, (0 : Int).toNat ≤ j → ∀ y, ys[j]? = some y → EMTermS o y := by
    intro j _ y hy
    obtain ⟨f1, f2⟩ := hall y (List.mem_of_getElem? hy)
    rw [show aggT Try.prog 75 = true by unfold aggT; rw [Try.underlying75]] at f2
    cases n with
    | zero => simp [Own] at f1
    | succ n =>
      obtain ⟨a_0, a_1, a_2, a_3, e, g_0, g_1, g_2, g_3⟩ := own75 f1
      obtain ⟨v_0, e_, _⟩ := own_int Try.underlying3 g_0
      injection e_ with e_; subst e_
      obtain ⟨v_1, e_, _⟩ := own_int Try.underlying3 g_1
      injection e_ with e_; subst e_
      obtain ⟨v_2, e_, _⟩ := own_str Try.underlying9 g_2
      injection e_ with e_; subst e_
      have Qz_3 := g_3
      obtain ⟨z_3, _, _, e_, _⟩ := own_lst Try.underlying73 co75 g_3
      injection e_ with e_; subst e_
      have Qz_3 := own_mono _ _ _ Qz_3
      exact ⟨_, _, _, z_3, by rw [many_agg f2, e], rfl, rfl, rfl, fun k g0 g1 => (ih.2.2) z_3 Qz_3 k false g0 g1⟩
  simp only [cnt] at g1 ⊢
  have hnn := cntL_nn ys
  obtain ⟨zs, k2, i1, i2, i3, i4, i5, i6⟩ := markTermS_loop ho mt u ys.length 0 k ys (Int.le_refl _) (by omega) (by omega) hd g0 (by simpa using g1)
  refine ⟨zs, k2, markTermS_ev ho u ys zs k k2 i1, heldTermS_ev ho _ k k2 (heldTermS_loop ho _ (zs.length : Int) (by rw [frozeL_len]) (by omega) zs.length 0 k k2 (Int.le_refl _) (by omega) (by simpa using i4)), i5, by simpa using i6⟩
theorem markAll (mt : MT o) : ∀ n, MarkAll o n
  | 0 => by
    unfold MarkAll
    refine ⟨?_, ?_, ?_⟩
    · intro ys h; simp [Own] at h
    · exact markIntS ho mt
    · intro ys h; simp [Own] at h
  | n + 1 => have ih := markAll mt n; ⟨markKidS ho mt ih, markIntS ho mt, markTermS ho mt ih⟩
end T1
