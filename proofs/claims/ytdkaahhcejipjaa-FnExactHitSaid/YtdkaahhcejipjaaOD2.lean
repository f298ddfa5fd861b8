import Derived.Test.YtdkaahhcejipjaaOD1
import Derived.Test.YtdkaahhcejipjaaOV1
import Derived.Test.YtdkaahhcejipjaaOVi33
import Derived.Test.YtdkaahhcejipjaaProg
import Derived.KernelRfl
set_option linter.unusedVariables false
set_option linter.unusedSimpArgs false
set_option linter.unnecessarySimpa false
set_option linter.unusedSectionVars false
open Go Go.Vi Go.Proofs
namespace T1
set_option maxRecDepth 100000
set_option maxHeartbeats 4000000
set_option linter.constructorNameAsVariable false
set_option linter.unusedVariables false
variable {o : Ora} (ho : IsDen vfun vloop o)
def EqOver (o : Ora) (n : Nat) : Prop := ∀ ds, Fits Try.prog n 29 ds → o.call 13 [.agg (ds.map .d), .agg (ds.map .d)] [] = some ⟨.d (.bool true), [], []⟩
def EqKidS (o : Ora) (n : Nat) : Prop := ∀ xs, Fits Try.prog n 27 [.lst xs] → o.call 40 [.d (.lst xs), .d (.lst xs)] [] = some ⟨.d (.bool true), [], []⟩
def EqIntS (o : Ora) (n : Nat) : Prop := ∀ xs, Fits Try.prog n 23 [.lst xs] → o.call 41 [.d (.lst xs), .d (.lst xs)] [] = some ⟨.d (.bool true), [], []⟩
def EqKid (o : Ora) (n : Nat) : Prop := ∀ ds, Fits Try.prog n 97 ds → o.call 69 [.agg (ds.map .d), .agg (ds.map .d)] [] = some ⟨.d (.bool true), [], []⟩
def EqTerm (o : Ora) (n : Nat) : Prop := ∀ ds, Fits Try.prog n 75 ds → o.call 93 [.agg (ds.map .d), .agg (ds.map .d)] [] = some ⟨.d (.bool true), [], []⟩
def EqTermS (o : Ora) (n : Nat) : Prop := ∀ xs, Fits Try.prog n 73 [.lst xs] → o.call 99 [.d (.lst xs), .d (.lst xs)] [] = some ⟨.d (.bool true), [], []⟩
def EqAll (o : Ora) (n : Nat) : Prop := EqOver o n ∧ EqKidS o n ∧ EqIntS o n ∧ EqKid o n ∧ EqTerm o n ∧ EqTermS o n
include ho
theorem eq_int (a : Int) : o.cmp .neq a a = false := by rw [ho.cmp]; simp [cmpI]
theorem eq_str (s : ByteArray) : o.sCmp .neq s s = false := by rw [ho.sCmp]; simp [sCmpI]
theorem lt_no (a : Int) : o.cmp .lss a a = false := by rw [ho.cmp]; simp [cmpI]
theorem lt_yes {a b : Int} (h : a < b) : o.cmp .lss a b = true := by rw [ho.cmp]; simp [cmpI, h]
theorem inc {a b : Int} (h0 : 0 ≤ a) (h : a < b) (hb : b ≤ 9223372036854775807) : o.ar .add .i64 a 1 = a + 1 := by rw [ho.ar]; simp only [arI]; exact wrap_id (by omega) (by omega)
theorem elt_some (xs : List D) (k : Int) (x : D) (h0 : 0 ≤ k) (h : xs[k.toNat]? = some x) : o.elt xs k = some x := by rw [ho.elt]; simp [eltI, h, h0]
theorem eqOver {n : Nat} (ih : EqAll o n) : EqOver o (n + 1) := by
  intro ds h
  have q := h
  obtain ⟨ac0, ac1, ac2, ac3, ac4, ac5, ac6, rfl, ah0, ah1, ah2, ah3, ah4, ah5, ah6⟩ := fits29 h
  obtain ⟨x0, e_, w0⟩ := fits_int Try.underlying3 ah0; injection e_ with e_; subst e_
  obtain ⟨x1, e_, w1⟩ := fits_int Try.underlying3 ah1; injection e_ with e_; subst e_
  obtain ⟨x2, e_, w2⟩ := fits_int Try.underlying3 ah2; injection e_ with e_; subst e_
  have k3 := ah3; obtain ⟨x3, m3, em3, e_, w3, v3⟩ := fits_lst Try.underlying27 ah3; injection e_ with e_; subst e_
  have q3 := (ih.2.1) x3 k3
  have k4 := ah4; obtain ⟨x4, m4, em4, e_, w4, v4⟩ := fits_lst Try.underlying23 ah4; injection e_ with e_; subst e_
  have q4 := (ih.2.2.1) x4 k4
  have k5 := ah5; obtain ⟨x5, m5, em5, e_, w5, v5⟩ := fits_lst Try.underlying23 ah5; injection e_ with e_; subst e_
  have q5 := (ih.2.2.1) x5 k5
  obtain ⟨x6, e_⟩ := fits_bool Try.underlying4 ah6; injection e_ with e_; subst e_
  have hb6 : (x6 != x6) = false := by simp
  refine ho.callR ?_
  cbv
  repeat ((first | rw [eq_int ho] | rw [eq_str ho] | rw [q3] | rw [q4] | rw [q5] | rw [hb6]); (try cbv))
theorem eqKidS_loop (xs : List D) (n : Int) (hn : o.len xs = n) (hm : n ≤ 9223372036854775807) (hx : ∀ x ∈ xs, ∃ c0 c1 c2 c3 c4 c5 c6, x = .agg [c0, c1, c2, c3, c4, c5, c6] ∧ o.call 69 [.agg [.d c0, .d c1, .d c2, .d c3, .d c4, .d c5, .d c6], .agg [.d c0, .d c1, .d c2, .d c3, .d c4, .d c5, .d c6]] [] = some ⟨.d (.bool true), [], []⟩) : ∀ (m : Nat) (k : Int), 0 ≤ k → k + m = n → (o.loop 4000 ⟨[.d (.lst xs), .d (.lst xs), .undef, .undef, .undef, .d (.int .i64 k), .undef, .undef, .undef, .undef, .undef, .undef, .undef, .undef, .undef, .undef, .undef, .undef, .undef, .undef, .undef, .undef, .undef, .undef, .undef, .undef, .undef], [[], [], [], [], [], [], [], [], [], [], [], [], [], [], [], [], [], [], [], [], [], [], [], [], [], [], []]⟩ = some (.exit 0, ⟨[.undef, .undef, .undef, .undef, .undef, .undef, .undef, .undef, .undef, .undef, .undef, .undef, .undef, .undef, .undef, .undef, .undef, .undef, .undef, .undef, .undef, .undef, .undef, .undef, .undef, .undef, .undef], [[], [], [], [], [], [], [], [], [], [], [], [], [], [], [], [], [], [], [], [], [], [], [], [], [], [], []]⟩))
  | 0, k, h0, h => by
    have hk : k = n := by omega
    subst hk
    have h2 := lt_no ho k
    refine ho.loopR ?_
    cbv
    repeat ((first | rw [hn] | rw [h2]); (try cbv))
  | m + 1, k, h0, h => by
    have hl : (xs.length : Int) = n := by rw [← hn, ho.len]
    have hk : k.toNat < xs.length := by omega
    obtain ⟨x, hxk⟩ : ∃ x, xs[k.toNat]? = some x := ⟨_, List.getElem?_eq_getElem hk⟩
    obtain ⟨c0, c1, c2, c3, c4, c5, c6, rfl, hc⟩ := hx x (List.mem_of_getElem? hxk)
    have ih := eqKidS_loop xs n hn hm hx m (k + 1) (by omega) (by omega)
    have h2 := lt_yes ho (show k < n by omega)
    have h3 : o.elt xs k = some (.agg [c0, c1, c2, c3, c4, c5, c6]) := elt_some ho xs k _ h0 hxk
    have h4 := inc ho h0 (show k < n by omega) hm
    refine ho.loopR ?_
    cbv
    repeat ((first | rw [hn] | rw [h2] | rw [h3] | rw [hc] | rw [h4] | exact ih); (try cbv))
theorem eqKidS {n : Nat} (ih : EqAll o n) : EqKidS o (n + 1) := by
  intro xs h
  obtain ⟨ys, m, em, e_, w, v⟩ := fits_lst Try.underlying27 h; injection e_ with e_; injection e_ with e_; subst e_; injection em with em; subst em
  have hm : ((xs.length : Nat) : Int) ≤ 9223372036854775807 := by unfold maxLen at w; omega
  have hx : ∀ x ∈ xs, ∃ c0 c1 c2 c3 c4 c5 c6, x = .agg [c0, c1, c2, c3, c4, c5, c6] ∧ o.call 69 [.agg [.d c0, .d c1, .d c2, .d c3, .d c4, .d c5, .d c6], .agg [.d c0, .d c1, .d c2, .d c3, .d c4, .d c5, .d c6]] [] = some ⟨.d (.bool true), [], []⟩ := by
    intro x hx
    obtain ⟨f1, f2⟩ := v x hx
    rw [show aggT Try.prog 97 = true by unfold aggT; rw [Try.underlying97]] at f2
    cases n with
    | zero => simp [Fits] at f1
    | succ n =>
      obtain ⟨c0, c1, c2, c3, c4, c5, c6, e1, _⟩ := fits97 f1
      have q := (ih.2.2.2.1) _ f1
      rw [e1] at q
      exact ⟨c0, c1, c2, c3, c4, c5, c6, by rw [many_agg f2, e1], q⟩
  have hn : o.len xs = ((xs.length : Nat) : Int) := ho.len xs
  generalize hN : ((xs.length : Nat) : Int) = N at hn hm
  have h1 := eqKidS_loop ho xs N hn hm hx xs.length 0 (Int.le_refl _) (by omega)
  have h2 := eq_int ho N
  refine ho.callR ?_
  cbv
  repeat ((first | rw [hn] | rw [h2] | rw [h1]); (try cbv))
theorem eqIntS_loop (xs : List D) (n : Int) (hn : o.len xs = n) (hm : n ≤ 9223372036854775807) (hx : ∀ x ∈ xs, ∃ i, x = .int .i64 i) : ∀ (m : Nat) (k : Int), 0 ≤ k → k + m = n → (o.loop 4100 ⟨[.d (.lst xs), .d (.lst xs), .undef, .undef, .undef, .d (.int .i64 k), .undef, .undef, .undef, .undef, .undef, .undef, .undef, .undef, .undef, .undef, .undef, .undef, .undef, .undef, .undef, .undef, .undef, .undef, .undef, .undef], [[], [], [], [], [], [], [], [], [], [], [], [], [], [], [], [], [], [], [], [], [], [], [], [], [], []]⟩ = some (.exit 0, ⟨[.undef, .undef, .undef, .undef, .undef, .undef, .undef, .undef, .undef, .undef, .undef, .undef, .undef, .undef, .undef, .undef, .undef, .undef, .undef, .undef, .undef, .undef, .undef, .undef, .undef, .undef], [[], [], [], [], [], [], [], [], [], [], [], [], [], [], [], [], [], [], [], [], [], [], [], [], [], []]⟩))
  | 0, k, h0, h => by
    have hk : k = n := by omega
    subst hk
    have h2 := lt_no ho k
    refine ho.loopR ?_
    cbv
    repeat ((first | rw [hn] | rw [h2]); (try cbv))
  | m + 1, k, h0, h => by
    have hl : (xs.length : Int) = n := by rw [← hn, ho.len]
    have hk : k.toNat < xs.length := by omega
    obtain ⟨x, hxk⟩ : ∃ x, xs[k.toNat]? = some x := ⟨_, List.getElem?_eq_getElem hk⟩
    obtain ⟨i, rfl⟩ := hx x (List.mem_of_getElem? hxk)
    have ih := eqIntS_loop xs n hn hm hx m (k + 1) (by omega) (by omega)
    have h2 := lt_yes ho (show k < n by omega)
    have h3 : o.elt xs k = some (.int .i64 i) := elt_some ho xs k _ h0 hxk
    have h4 := inc ho h0 (show k < n by omega) hm
    refine ho.loopR ?_
    cbv
    repeat ((first | rw [hn] | rw [h2] | rw [h3] | rw [eq_int ho i] | rw [h4] | exact ih); (try cbv))
theorem eqIntS {n : Nat} (ih : EqAll o n) : EqIntS o (n + 1) := by
  intro xs h
  obtain ⟨ys, m, em, e_, w, v⟩ := fits_lst Try.underlying23 h; injection e_ with e_; injection e_ with e_; subst e_; injection em with em; subst em
  have hm : ((xs.length : Nat) : Int) ≤ 9223372036854775807 := by unfold maxLen at w; omega
  have hx : ∀ x ∈ xs, ∃ i, x = .int .i64 i := by
    intro x hx
    obtain ⟨f1, f2⟩ := v x hx
    rw [show aggT Try.prog 3 = false by unfold aggT; rw [Try.underlying3]] at f2
    obtain ⟨i, e1, _⟩ := fits_int Try.underlying3 f1
    rw [one_cell f2] at e1; injection e1 with e1; exact ⟨i, e1⟩
  have hn : o.len xs = ((xs.length : Nat) : Int) := ho.len xs
  generalize hN : ((xs.length : Nat) : Int) = N at hn hm
  have h1 := eqIntS_loop ho xs N hn hm hx xs.length 0 (Int.le_refl _) (by omega)
  have h2 := eq_int ho N
  refine ho.callR ?_
  cbv
  repeat ((first | rw [hn] | rw [h2] | rw [h1]); (try cbv))
theorem eqKid {n : Nat} (ih : EqAll o n) : EqKid o (n + 1) := by
  intro ds h
  have q := h
  obtain ⟨ac0, ac1, ac2, ac3, ac4, ac5, ac6, rfl, ah0, ah1, ah2, ah3⟩ := fits97 h
  obtain ⟨x0, e_, w0⟩ := fits_str Try.underlying9 ah0; injection e_ with e_; subst e_
  obtain ⟨x1, e_, w1⟩ := fits_str Try.underlying9 ah1; injection e_ with e_; subst e_
  have q2 := (ih.2.2.2.2.1) _ ah2
  simp only [List.map] at q2
  obtain ⟨x3, e_, w3⟩ := fits_int Try.underlying3 ah3; injection e_ with e_; subst e_
  refine ho.callR ?_
  cbv
  repeat ((first | rw [eq_int ho] | rw [eq_str ho] | rw [q2]); (try cbv))
theorem eqTerm {n : Nat} (ih : EqAll o n) : EqTerm o (n + 1) := by
  intro ds h
  have q := h
  obtain ⟨ac0, ac1, ac2, ac3, rfl, ah0, ah1, ah2, ah3⟩ := fits75 h
  obtain ⟨x0, e_, w0⟩ := fits_int Try.underlying3 ah0; injection e_ with e_; subst e_
  obtain ⟨x1, e_, w1⟩ := fits_int Try.underlying3 ah1; injection e_ with e_; subst e_
  obtain ⟨x2, e_, w2⟩ := fits_str Try.underlying9 ah2; injection e_ with e_; subst e_
  have k3 := ah3; obtain ⟨x3, m3, em3, e_, w3, v3⟩ := fits_lst Try.underlying73 ah3; injection e_ with e_; subst e_
  have q3 := (ih.2.2.2.2.2) x3 k3
  refine ho.callR ?_
  cbv
  repeat ((first | rw [eq_int ho] | rw [eq_str ho] | rw [q3]); (try cbv))
theorem eqTermS_loop (xs : List D) (n : Int) (hn : o.len xs = n) (hm : n ≤ 9223372036854775807) (hx : ∀ x ∈ xs, ∃ c0 c1 c2 c3, x = .agg [c0, c1, c2, c3] ∧ o.call 93 [.agg [.d c0, .d c1, .d c2, .d c3], .agg [.d c0, .d c1, .d c2, .d c3]] [] = some ⟨.d (.bool true), [], []⟩) : ∀ (m : Nat) (k : Int), 0 ≤ k → k + m = n → (o.loop 9900 ⟨[.d (.lst xs), .d (.lst xs), .undef, .undef, .undef, .d (.int .i64 k), .undef, .undef, .undef, .undef, .undef, .undef, .undef, .undef, .undef, .undef, .undef, .undef, .undef, .undef, .undef, .undef, .undef, .undef, .undef, .undef, .undef], [[], [], [], [], [], [], [], [], [], [], [], [], [], [], [], [], [], [], [], [], [], [], [], [], [], [], []]⟩ = some (.exit 0, ⟨[.undef, .undef, .undef, .undef, .undef, .undef, .undef, .undef, .undef, .undef, .undef, .undef, .undef, .undef, .undef, .undef, .undef, .undef, .undef, .undef, .undef, .undef, .undef, .undef, .undef, .undef, .undef], [[], [], [], [], [], [], [], [], [], [], [], [], [], [], [], [], [], [], [], [], [], [], [], [], [], [], []]⟩))
  | 0, k, h0, h => by
    have hk : k = n := by omega
    subst hk
    have h2 := lt_no ho k
    refine ho.loopR ?_
    cbv
    repeat ((first | rw [hn] | rw [h2]); (try cbv))
  | m + 1, k, h0, h => by
    have hl : (xs.length : Int) = n := by rw [← hn, ho.len]
    have hk : k.toNat < xs.length := by omega
    obtain ⟨x, hxk⟩ : ∃ x, xs[k.toNat]? = some x := ⟨_, List.getElem?_eq_getElem hk⟩
    obtain ⟨c0, c1, c2, c3, rfl, hc⟩ := hx x (List.mem_of_getElem? hxk)
    have ih := eqTermS_loop xs n hn hm hx m (k + 1) (by omega) (by omega)
    have h2 := lt_yes ho (show k < n by omega)
    have h3 : o.elt xs k = some (.agg [c0, c1, c2, c3]) := elt_some ho xs k _ h0 hxk
    have h4 := inc ho h0 (show k < n by omega) hm
    refine ho.loopR ?_
    cbv
    repeat ((first | rw [hn] | rw [h2] | rw [h3] | rw [hc] | rw [h4] | exact ih); (try cbv))
theorem eqTermS {n : Nat} (ih : EqAll o n) : EqTermS o (n + 1) := by
  intro xs h
  obtain ⟨ys, m, em, e_, w, v⟩ := fits_lst Try.underlying73 h; injection e_ with e_; injection e_ with e_; subst e_; injection em with em; subst em
  have hm : ((xs.length : Nat) : Int) ≤ 9223372036854775807 := by unfold maxLen at w; omega
  have hx : ∀ x ∈ xs, ∃ c0 c1 c2 c3, x = .agg [c0, c1, c2, c3] ∧ o.call 93 [.agg [.d c0, .d c1, .d c2, .d c3], .agg [.d c0, .d c1, .d c2, .d c3]] [] = some ⟨.d (.bool true), [], []⟩ := by
    intro x hx
    obtain ⟨f1, f2⟩ := v x hx
    rw [show aggT Try.prog 75 = true by unfold aggT; rw [Try.underlying75]] at f2
    cases n with
    | zero => simp [Fits] at f1
    | succ n =>
      obtain ⟨c0, c1, c2, c3, e1, _⟩ := fits75 f1
      have q := (ih.2.2.2.2.1) _ f1
      rw [e1] at q
      exact ⟨c0, c1, c2, c3, by rw [many_agg f2, e1], q⟩
  have hn : o.len xs = ((xs.length : Nat) : Int) := ho.len xs
  generalize hN : ((xs.length : Nat) : Int) = N at hn hm
  have h1 := eqTermS_loop ho xs N hn hm hx xs.length 0 (Int.le_refl _) (by omega)
  have h2 := eq_int ho N
  refine ho.callR ?_
  cbv
  repeat ((first | rw [hn] | rw [h2] | rw [h1]); (try cbv))
theorem eqAll : ∀ n, EqAll o n
  | 0 => by
    unfold EqAll
    refine ⟨?_, ?_, ?_, ?_, ?_, ?_⟩ <;> (intro x h; simp [Fits] at h)
  | n + 1 => have ih := eqAll n; ⟨eqOver ho ih, eqKidS ho ih, eqIntS ho ih, eqKid ho ih, eqTerm ho ih, eqTermS ho ih⟩
end T1
