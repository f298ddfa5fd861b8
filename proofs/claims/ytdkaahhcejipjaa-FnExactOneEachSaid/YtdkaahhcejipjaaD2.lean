import Derived.Test.YtdkaahhcejipjaaD1
import Derived.Test.YtdkaahhcejipjaaV1
import Derived.Test.YtdkaahhcejipjaaVi30
import Derived.Test.YtdkaahhcejipjaaProg
import Derived.KernelRfl
set_option linter.unusedVariables false
set_option linter.unusedSimpArgs false
open Go Go.Vi Go.Proofs
namespace T1
set_option maxRecDepth 100000
set_option maxHeartbeats 4000000
set_option linter.constructorNameAsVariable false
set_option linter.unusedVariables false
variable {o : Ora} (ho : IsDen vfun vloop o)
def EqOver (o : Ora) (n : Nat) : Prop := ∀ ds, Fits Try.prog n 29 ds → o.call 13 [.agg (ds.map .d), .agg (ds.map .d)] [] = some ⟨.d (.bool true), [], []⟩
def EqHouse (o : Ora) (n : Nat) : Prop := ∀ ds, Fits Try.prog n 47 ds → o.call 20 [.agg (ds.map .d), .agg (ds.map .d)] [] = some ⟨.d (.bool true), [], []⟩
def EqKidS (o : Ora) (n : Nat) : Prop := ∀ xs, Fits Try.prog n 27 [.lst xs] → o.call 40 [.d (.lst xs), .d (.lst xs)] [] = some ⟨.d (.bool true), [], []⟩
def EqIntS (o : Ora) (n : Nat) : Prop := ∀ xs, Fits Try.prog n 23 [.lst xs] → o.call 41 [.d (.lst xs), .d (.lst xs)] [] = some ⟨.d (.bool true), [], []⟩
def EqEntryS (o : Ora) (n : Nat) : Prop := ∀ xs, Fits Try.prog n 43 [.lst xs] → o.call 52 [.d (.lst xs), .d (.lst xs)] [] = some ⟨.d (.bool true), [], []⟩
def EqOverS (o : Ora) (n : Nat) : Prop := ∀ xs, Fits Try.prog n 44 [.lst xs] → o.call 53 [.d (.lst xs), .d (.lst xs)] [] = some ⟨.d (.bool true), [], []⟩
def EqWorkerS (o : Ora) (n : Nat) : Prop := ∀ xs, Fits Try.prog n 45 [.lst xs] → o.call 54 [.d (.lst xs), .d (.lst xs)] [] = some ⟨.d (.bool true), [], []⟩
def EqKid (o : Ora) (n : Nat) : Prop := ∀ ds, Fits Try.prog n 97 ds → o.call 69 [.agg (ds.map .d), .agg (ds.map .d)] [] = some ⟨.d (.bool true), [], []⟩
def EqEntry (o : Ora) (n : Nat) : Prop := ∀ ds, Fits Try.prog n 116 ds → o.call 77 [.agg (ds.map .d), .agg (ds.map .d)] [] = some ⟨.d (.bool true), [], []⟩
def EqWorker (o : Ora) (n : Nat) : Prop := ∀ ds, Fits Try.prog n 77 ds → o.call 78 [.agg (ds.map .d), .agg (ds.map .d)] [] = some ⟨.d (.bool true), [], []⟩
def EqTerm (o : Ora) (n : Nat) : Prop := ∀ ds, Fits Try.prog n 75 ds → o.call 93 [.agg (ds.map .d), .agg (ds.map .d)] [] = some ⟨.d (.bool true), [], []⟩
def EqCode (o : Ora) (n : Nat) : Prop := ∀ ds, Fits Try.prog n 85 ds → o.call 98 [.agg (ds.map .d), .agg (ds.map .d)] [] = some ⟨.d (.bool true), [], []⟩
def EqTermS (o : Ora) (n : Nat) : Prop := ∀ xs, Fits Try.prog n 73 [.lst xs] → o.call 99 [.d (.lst xs), .d (.lst xs)] [] = some ⟨.d (.bool true), [], []⟩
def EqFnS (o : Ora) (n : Nat) : Prop := ∀ xs, Fits Try.prog n 82 [.lst xs] → o.call 112 [.d (.lst xs), .d (.lst xs)] [] = some ⟨.d (.bool true), [], []⟩
def EqPatS (o : Ora) (n : Nat) : Prop := ∀ xs, Fits Try.prog n 83 [.lst xs] → o.call 113 [.d (.lst xs), .d (.lst xs)] [] = some ⟨.d (.bool true), [], []⟩
def EqFn (o : Ora) (n : Nat) : Prop := ∀ ds, Fits Try.prog n 160 ds → o.call 121 [.agg (ds.map .d), .agg (ds.map .d)] [] = some ⟨.d (.bool true), [], []⟩
def EqPat (o : Ora) (n : Nat) : Prop := ∀ ds, Fits Try.prog n 163 ds → o.call 122 [.agg (ds.map .d), .agg (ds.map .d)] [] = some ⟨.d (.bool true), [], []⟩
def EqInsS (o : Ora) (n : Nat) : Prop := ∀ xs, Fits Try.prog n 158 [.lst xs] → o.call 125 [.d (.lst xs), .d (.lst xs)] [] = some ⟨.d (.bool true), [], []⟩
def EqIns (o : Ora) (n : Nat) : Prop := ∀ ds, Fits Try.prog n 173 ds → o.call 128 [.agg (ds.map .d), .agg (ds.map .d)] [] = some ⟨.d (.bool true), [], []⟩
def EqAll (o : Ora) (n : Nat) : Prop := EqOver o n ∧ EqHouse o n ∧ EqKidS o n ∧ EqIntS o n ∧ EqEntryS o n ∧ EqOverS o n ∧ EqWorkerS o n ∧ EqKid o n ∧ EqEntry o n ∧ EqWorker o n ∧ EqTerm o n ∧ EqCode o n ∧ EqTermS o n ∧ EqFnS o n ∧ EqPatS o n ∧ EqFn o n ∧ EqPat o n ∧ EqInsS o n ∧ EqIns o n
include ho
theorem eq_int (a : Int) : o.cmp .neq a a = false := by rw [ho.cmp]; simp [cmpI]
theorem eq_str (s : ByteArray) : o.sCmp .neq s s = false := by rw [ho.sCmp]; simp [sCmpI]
theorem lt_no (a : Int) : o.cmp .lss a a = false := by rw [ho.cmp]; simp [cmpI]
theorem lt_yes {a b : Int} (h : a < b) : o.cmp .lss a b = true := by rw [ho.cmp]; simp [cmpI, h]
theorem inc {a b : Int} (h0 : 0 ≤ a) (h : a < b) (hb : b ≤ 9223372036854775807) : o.ar .add .i64 a 1 = a + 1 := by rw [ho.ar]; simp only [arI]; exact wrap_id (by omega) (by omega)
theorem elt_some (xs : List D) (k : Int) (x : D) (h0 : 0 ≤ k) (h : xs[k.toNat]? = some x) : o.elt xs k = some x := by rw [ho.elt]; simp [eltI, h, h0]
theorem eqOver {n : Nat} (ih : EqAll o n) : EqOver o (n + 1) := by
  intro ds h
  have q := h
  obtain ⟨ac0, ac1, ac2, ac3, ac4, ac5, ac6, rfl, ah0, ah1, ah2, ah3, ah4, ah5, ah6⟩ := fits29 h
  obtain ⟨x0, e_, w0⟩ := fits_int Try.underlying3 ah0; injection e_ with e_; subst e_
  obtain ⟨x1, e_, w1⟩ := fits_int Try.underlying3 ah1; injection e_ with e_; subst e_
  obtain ⟨x2, e_, w2⟩ := fits_int Try.underlying3 ah2; injection e_ with e_; subst e_
  have k3 := ah3; obtain ⟨x3, m3, em3, e_, w3, v3⟩ := fits_lst Try.underlying27 ah3; injection e_ with e_; subst e_
  have q3 := (ih.2.2.1) x3 k3
  have k4 := ah4; obtain ⟨x4, m4, em4, e_, w4, v4⟩ := fits_lst Try.underlying23 ah4; injection e_ with e_; subst e_
  have q4 := (ih.2.2.2.1) x4 k4
  have k5 := ah5; obtain ⟨x5, m5, em5, e_, w5, v5⟩ := fits_lst Try.underlying23 ah5; injection e_ with e_; subst e_
  have q5 := (ih.2.2.2.1) x5 k5
  obtain ⟨x6, e_⟩ := fits_bool Try.underlying4 ah6; injection e_ with e_; subst e_
  have hb6 : (x6 != x6) = false := by simp
  refine ho.callR ?_
  cbv
  repeat ((first | rw [eq_int ho] | rw [eq_str ho] | rw [q3] | rw [q4] | rw [q5] | rw [hb6]); (try cbv))
theorem eqHouse {n : Nat} (ih : EqAll o n) : EqHouse o (n + 1) := by
  intro ds h
  have q := h
  obtain ⟨ac0, ac1, ac2, ac3, ac4, rfl, ah0, ah1, ah2, ah3, ah4⟩ := fits47 h
  have k0 := ah0; obtain ⟨x0, m0, em0, e_, w0, v0⟩ := fits_lst Try.underlying43 ah0; injection e_ with e_; subst e_
  have q0 := (ih.2.2.2.2.1) x0 k0
  have k1 := ah1; obtain ⟨x1, m1, em1, e_, w1, v1⟩ := fits_lst Try.underlying44 ah1; injection e_ with e_; subst e_
  have q1 := (ih.2.2.2.2.2.1) x1 k1
  have k2 := ah2; obtain ⟨x2, m2, em2, e_, w2, v2⟩ := fits_lst Try.underlying45 ah2; injection e_ with e_; subst e_
  have q2 := (ih.2.2.2.2.2.2.1) x2 k2
  obtain ⟨x3, e_, w3⟩ := fits_int Try.underlying3 ah3; injection e_ with e_; subst e_
  obtain ⟨x4, e_, w4⟩ := fits_int Try.underlying3 ah4; injection e_ with e_; subst e_
  refine ho.callR ?_
  cbv
  repeat ((first | rw [eq_int ho] | rw [eq_str ho] | rw [q0] | rw [q1] | rw [q2]); (try cbv))
theorem eqKidS_loop (xs : List D) (n : Int) (hn : o.len xs = n) (hm : n ≤ 9223372036854775807) (hx : ∀ x ∈ xs, ∃ c0 c1 c2 c3 c4 c5 c6, x = .agg [c0, c1, c2, c3, c4, c5, c6] ∧ o.call 69 [.agg [.d c0, .d c1, .d c2, .d c3, .d c4, .d c5, .d c6], .agg [.d c0, .d c1, .d c2, .d c3, .d c4, .d c5, .d c6]] [] = some ⟨.d (.bool true), [], []⟩) : ∀ (m : Nat) (k : Int), 0 ≤ k → k + m = n → (o.loop 4000 ⟨[.d (.lst xs), .d (.lst xs), .undef, .undef, .undef, .d (.int .i64 k), .undef, .undef, .undef, .undef, .undef, .undef, .undef, .undef, .undef, .undef, .undef, .undef, .undef, .undef, .undef, .undef, .undef, .undef, .undef, .undef, .undef], [[], [], [], [], [], [], [], [], [], [], [], [], [], [], [], [], [], [], [], [], [], [], [], [], [], [], []]⟩ = some (.exit 0, ⟨[.undef, .undef, .undef, .undef, .undef, .undef, .undef, .undef, .undef, .undef, .undef, .undef, .undef, .undef, .undef, .undef, .undef, .undef, .undef, .undef, .undef, .undef, .undef, .undef, .undef, .undef, .undef], [[], [], [], [], [], [], [], [], [], [], [], [], [], [], [], [], [], [], [], [], [], [], [], [], [], [], []]⟩))
  | 0, k, h0, h => by
    have hk : k = n := by omega
    subst hk
    have h2 := lt_no ho k
    refine ho.loopR ?_
    cbv
    repeat ((first | rw [hn] | rw [h2]); (try cbv))
  | m + 1, k, h0, h => by
    have hl : (xs.length : Int) = n := by rw [← hn, ho.len]
    have hk : k.toNat < xs.length := by omega
    obtain ⟨x, hxk⟩ : ∃ x, xs[k.toNat]? = some x := ⟨_, List.getElem?_eq_getElem hk⟩
    obtain ⟨c0, c1, c2, c3, c4, c5, c6, rfl, hc⟩ := hx x (List.mem_of_getElem? hxk)
    have ih := eqKidS_loop xs n hn hm hx m (k + 1) (by omega) (by omega)
    have h2 := lt_yes ho (show k < n by omega)
    have h3 : o.elt xs k = some (.agg [c0, c1, c2, c3, c4, c5, c6]) := elt_some ho xs k _ h0 hxk
    have h4 := inc ho h0 (show k < n by omega) hm
    refine ho.loopR ?_
    cbv
    repeat ((first | rw [hn] | rw [h2] | rw [h3] | rw [hc] | rw [h4] | exact ih); (try cbv))
theorem eqKidS {n : Nat} (ih : EqAll o n) : EqKidS o (n + 1) := by
  intro xs h
  obtain ⟨ys, m, em, e_, w, v⟩ := fits_lst Try.underlying27 h; injection e_ with e_; injection e_ with e_; subst e_; injection em with em; subst em
  have hm : ((xs.length : Nat) : Int) ≤ 9223372036854775807 := by unfold maxLen at w; omega
  have hx : ∀ x ∈ xs, ∃ c0 c1 c2 c3 c4 c5 c6, x = .agg [c0, c1, c2, c3, c4, c5, c6] ∧ o.call 69 [.agg [.d c0, .d c1, .d c2, .d c3, .d c4, .d c5, .d c6], .agg [.d c0, .d c1, .d c2, .d c3, .d c4, .d c5, .d c6]] [] = some ⟨.d (.bool true), [], []⟩ := by
    intro x hx
    obtain ⟨f1, f2⟩ := v x hx
    rw [show aggT Try.prog 97 = true by unfold aggT; rw [Try.underlying97]] at f2
    cases n with
    | zero => simp [Fits] at f1
    | succ n =>
      obtain ⟨c0, c1, c2, c3, c4, c5, c6, e1, _⟩ := fits97 f1
      have q := (ih.2.2.2.2.2.2.2.1) _ f1
      rw [e1] at q
      exact ⟨c0, c1, c2, c3, c4, c5, c6, by rw [many_agg f2, e1], q⟩
  have hn : o.len xs = ((xs.length : Nat) : Int) := ho.len xs
  generalize hN : ((xs.length : Nat) : Int) = N at hn hm
  have h1 := eqKidS_loop ho xs N hn hm hx xs.length 0 (Int.le_refl _) (by omega)
  have h2 := eq_int ho N
  refine ho.callR ?_
  cbv
  repeat ((first | rw [hn] | rw [h2] | rw [h1]); (try cbv))
theorem eqIntS_loop (xs : List D) (n : Int) (hn : o.len xs = n) (hm : n ≤ 9223372036854775807) (hx : ∀ x ∈ xs, ∃ i, x = .int .i64 i) : ∀ (m : Nat) (k : Int), 0 ≤ k → k + m = n → (o.loop 4100 ⟨[.d (.lst xs), .d (.lst xs), .undef, .undef, .undef, .d (.int .i64 k), .undef, .undef, .undef, .undef, .undef, .undef, .undef, .undef, .undef, .undef, .undef, .undef, .undef, .undef, .undef, .undef, .undef, .undef, .undef, .undef], [[], [], [], [], [], [], [], [], [], [], [], [], [], [], [], [], [], [], [], [], [], [], [], [], [], []]⟩ = some (.exit 0, ⟨[.undef, .undef, .undef, .undef, .undef, .undef, .undef, .undef, .undef, .undef, .undef, .undef, .undef, .undef, .undef, .undef, .undef, .undef, .undef, .undef, .undef, .undef, .undef, .undef, .undef, .undef], [[], [], [], [], [], [], [], [], [], [], [], [], [], [], [], [], [], [], [], [], [], [], [], [], [], []]⟩))
  | 0, k, h0, h => by
    have hk : k = n := by omega
    subst hk
    have h2 := lt_no ho k
    refine ho.loopR ?_
    cbv
    repeat ((first | rw [hn] | rw [h2]); (try cbv))
  | m + 1, k, h0, h => by
    have hl : (xs.length : Int) = n := by rw [← hn, ho.len]
    have hk : k.toNat < xs.length := by omega
    obtain ⟨x, hxk⟩ : ∃ x, xs[k.toNat]? = some x := ⟨_, List.getElem?_eq_getElem hk⟩
    obtain ⟨i, rfl⟩ := hx x (List.mem_of_getElem? hxk)
    have ih := eqIntS_loop xs n hn hm hx m (k + 1) (by omega) (by omega)
    have h2 := lt_yes ho (show k < n by omega)
    have h3 : o.elt xs k = some (.int .i64 i) := elt_some ho xs k _ h0 hxk
    have h4 := inc ho h0 (show k < n by omega) hm
    refine ho.loopR ?_
    cbv
    repeat ((first | rw [hn] | rw [h2] | rw [h3] | rw [eq_int ho i] | rw [h4] | exact ih); (try cbv))
theorem eqIntS {n : Nat} (ih : EqAll o n) : EqIntS o (n + 1) := by
  intro xs h
  obtain ⟨ys, m, em, e_, w, v⟩ := fits_lst Try.underlying23 h; injection e_ with e_; injection e_ with e_; subst e_; injection em with em; subst em
  have hm : ((xs.length : Nat) : Int) ≤ 9223372036854775807 := by unfold maxLen at w; omega
  have hx : ∀ x ∈ xs, ∃ i, x = .int .i64 i := by
    intro x hx
    obtain ⟨f1, f2⟩ := v x hx
    rw [show aggT Try.prog 3 = false by unfold aggT; rw [Try.underlying3]] at f2
    obtain ⟨i, e1, _⟩ := fits_int Try.underlying3 f1
    rw [one_cell f2] at e1; injection e1 with e1; exact ⟨i, e1⟩
  have hn : o.len xs = ((xs.length : Nat) : Int) := ho.len xs
  generalize hN : ((xs.length : Nat) : Int) = N at hn hm
  have h1 := eqIntS_loop ho xs N hn hm hx xs.length 0 (Int.le_refl _) (by omega)
  have h2 := eq_int ho N
  refine ho.callR ?_
  cbv
  repeat ((first | rw [hn] | rw [h2] | rw [h1]); (try cbv))
theorem eqEntryS_loop (xs : List D) (n : Int) (hn : o.len xs = n) (hm : n ≤ 9223372036854775807) (hx : ∀ x ∈ xs, ∃ c0 c1 c2 c3 c4 c5 c6, x = .agg [c0, c1, c2, c3, c4, c5, c6] ∧ o.call 77 [.agg [.d c0, .d c1, .d c2, .d c3, .d c4, .d c5, .d c6], .agg [.d c0, .d c1, .d c2, .d c3, .d c4, .d c5, .d c6]] [] = some ⟨.d (.bool true), [], []⟩) : ∀ (m : Nat) (k : Int), 0 ≤ k → k + m = n → (o.loop 5200 ⟨[.d (.lst xs), .d (.lst xs), .undef, .undef, .undef, .d (.int .i64 k), .undef, .undef, .undef, .undef, .undef, .undef, .undef, .undef, .undef, .undef, .undef, .undef, .undef, .undef, .undef, .undef, .undef, .undef, .undef, .undef, .undef], [[], [], [], [], [], [], [], [], [], [], [], [], [], [], [], [], [], [], [], [], [], [], [], [], [], [], []]⟩ = some (.exit 0, ⟨[.undef, .undef, .undef, .undef, .undef, .undef, .undef, .undef, .undef, .undef, .undef, .undef, .undef, .undef, .undef, .undef, .undef, .undef, .undef, .undef, .undef, .undef, .undef, .undef, .undef, .undef, .undef], [[], [], [], [], [], [], [], [], [], [], [], [], [], [], [], [], [], [], [], [], [], [], [], [], [], [], []]⟩))
  | 0, k, h0, h => by
    have hk : k = n := by omega
    subst hk
    have h2 := lt_no ho k
    refine ho.loopR ?_
    cbv
    repeat ((first | rw [hn] | rw [h2]); (try cbv))
  | m + 1, k, h0, h => by
    have hl : (xs.length : Int) = n := by rw [← hn, ho.len]
    have hk : k.toNat < xs.length := by omega
    obtain ⟨x, hxk⟩ : ∃ x, xs[k.toNat]? = some x := ⟨_, List.getElem?_eq_getElem hk⟩
    obtain ⟨c0, c1, c2, c3, c4, c5, c6, rfl, hc⟩ := hx x (List.mem_of_getElem? hxk)
    have ih := eqEntryS_loop xs n hn hm hx m (k + 1) (by omega) (by omega)
    have h2 := lt_yes ho (show k < n by omega)
    have h3 : o.elt xs k = some (.agg [c0, c1, c2, c3, c4, c5, c6]) := elt_some ho xs k _ h0 hxk
    have h4 := inc ho h0 (show k < n by omega) hm
    refine ho.loopR ?_
    cbv
    repeat ((first | rw [hn] | rw [h2] | rw [h3] | rw [hc] | rw [h4] | exact ih); (try cbv))
theorem eqEntryS {n : Nat} (ih : EqAll o n) : EqEntryS o (n + 1) := by
  intro xs h
  obtain ⟨ys, m, em, e_, w, v⟩ := fits_lst Try.underlying43 h; injection e_ with e_; injection e_ with e_; subst e_; injection em with em; subst em
  have hm : ((xs.length : Nat) : Int) ≤ 9223372036854775807 := by unfold maxLen at w; omega
  have hx : ∀ x ∈ xs, ∃ c0 c1 c2 c3 c4 c5 c6, x = .agg [c0, c1, c2, c3, c4, c5, c6] ∧ o.call 77 [.agg [.d c0, .d c1, .d c2, .d c3, .d c4, .d c5, .d c6], .agg [.d c0, .d c1, .d c2, .d c3, .d c4, .d c5, .d c6]] [] = some ⟨.d (.bool true), [], []⟩ := by
    intro x hx
    obtain ⟨f1, f2⟩ := v x hx
    rw [show aggT Try.prog 116 = true by unfold aggT; rw [Try.underlying116]] at f2
    cases n with
    | zero => simp [Fits] at f1
    | succ n =>
      obtain ⟨c0, c1, c2, c3, c4, c5, c6, e1, _⟩ := fits116 f1
      have q := (ih.2.2.2.2.2.2.2.2.1) _ f1
      rw [e1] at q
      exact ⟨c0, c1, c2, c3, c4, c5, c6, by rw [many_agg f2, e1], q⟩
  have hn : o.len xs = ((xs.length : Nat) : Int) := ho.len xs
  generalize hN : ((xs.length : Nat) : Int) = N at hn hm
  have h1 := eqEntryS_loop ho xs N hn hm hx xs.length 0 (Int.le_refl _) (by omega)
  have h2 := eq_int ho N
  refine ho.callR ?_
  cbv
  repeat ((first | rw [hn] | rw [h2] | rw [h1]); (try cbv))
theorem eqOverS_loop (xs : List D) (n : Int) (hn : o.len xs = n) (hm : n ≤ 9223372036854775807) (hx : ∀ x ∈ xs, ∃ c0 c1 c2 c3 c4 c5 c6, x = .agg [c0, c1, c2, c3, c4, c5, c6] ∧ o.call 13 [.agg [.d c0, .d c1, .d c2, .d c3, .d c4, .d c5, .d c6], .agg [.d c0, .d c1, .d c2, .d c3, .d c4, .d c5, .d c6]] [] = some ⟨.d (.bool true), [], []⟩) : ∀ (m : Nat) (k : Int), 0 ≤ k → k + m = n → (o.loop 5300 ⟨[.d (.lst xs), .d (.lst xs), .undef, .undef, .undef, .d (.int .i64 k), .undef, .undef, .undef, .undef, .undef, .undef, .undef, .undef, .undef, .undef, .undef, .undef, .undef, .undef, .undef, .undef, .undef, .undef, .undef, .undef, .undef], [[], [], [], [], [], [], [], [], [], [], [], [], [], [], [], [], [], [], [], [], [], [], [], [], [], [], []]⟩ = some (.exit 0, ⟨[.undef, .undef, .undef, .undef, .undef, .undef, .undef, .undef, .undef, .undef, .undef, .undef, .undef, .undef, .undef, .undef, .undef, .undef, .undef, .undef, .undef, .undef, .undef, .undef, .undef, .undef, .undef], [[], [], [], [], [], [], [], [], [], [], [], [], [], [], [], [], [], [], [], [], [], [], [], [], [], [], []]⟩))
  | 0, k, h0, h => by
    have hk : k = n := by omega
    subst hk
    have h2 := lt_no ho k
    refine ho.loopR ?_
    cbv
    repeat ((first | rw [hn] | rw [h2]); (try cbv))
  | m + 1, k, h0, h => by
    have hl : (xs.length : Int) = n := by rw [← hn, ho.len]
    have hk : k.toNat < xs.length := by omega
    obtain ⟨x, hxk⟩ : ∃ x, xs[k.toNat]? = some x := ⟨_, List.getElem?_eq_getElem hk⟩
    obtain ⟨c0, c1, c2, c3, c4, c5, c6, rfl, hc⟩ := hx x (List.mem_of_getElem? hxk)
    have ih := eqOverS_loop xs n hn hm hx m (k + 1) (by omega) (by omega)
    have h2 := lt_yes ho (show k < n by omega)
    have h3 : o.elt xs k = some (.agg [c0, c1, c2, c3, c4, c5, c6]) := elt_some ho xs k _ h0 hxk
    have h4 := inc ho h0 (show k < n by omega) hm
    refine ho.loopR ?_
    cbv
    repeat ((first | rw [hn] | rw [h2] | rw [h3] | rw [hc] | rw [h4] | exact ih); (try cbv))
theorem eqOverS {n : Nat} (ih : EqAll o n) : EqOverS o (n + 1) := by
  intro xs h
  obtain ⟨ys, m, em, e_, w, v⟩ := fits_lst Try.underlying44 h; injection e_ with e_; injection e_ with e_; subst e_; injection em with em; subst em
  have hm : ((xs.length : Nat) : Int) ≤ 9223372036854775807 := by unfold maxLen at w; omega
  have hx : ∀ x ∈ xs, ∃ c0 c1 c2 c3 c4 c5 c6, x = .agg [c0, c1, c2, c3, c4, c5, c6] ∧ o.call 13 [.agg [.d c0, .d c1, .d c2, .d c3, .d c4, .d c5, .d c6], .agg [.d c0, .d c1, .d c2, .d c3, .d c4, .d c5, .d c6]] [] = some ⟨.d (.bool true), [], []⟩ := by
    intro x hx
    obtain ⟨f1, f2⟩ := v x hx
    rw [show aggT Try.prog 29 = true by unfold aggT; rw [Try.underlying29]] at f2
    cases n with
    | zero => simp [Fits] at f1
    | succ n =>
      obtain ⟨c0, c1, c2, c3, c4, c5, c6, e1, _⟩ := fits29 f1
      have q := (ih.1) _ f1
      rw [e1] at q
      exact ⟨c0, c1, c2, c3, c4, c5, c6, by rw [many_agg f2, e1], q⟩
  have hn : o.len xs = ((xs.length : Nat) : Int) := ho.len xs
  generalize hN : ((xs.length : Nat) : Int) = N at hn hm
  have h1 := eqOverS_loop ho xs N hn hm hx xs.length 0 (Int.le_refl _) (by omega)
  have h2 := eq_int ho N
  refine ho.callR ?_
  cbv
  repeat ((first | rw [hn] | rw [h2] | rw [h1]); (try cbv))
theorem eqWorkerS_loop (xs : List D) (n : Int) (hn : o.len xs = n) (hm : n ≤ 9223372036854775807) (hx : ∀ x ∈ xs, ∃ c0 c1 c2 c3 c4 c5 c6 c7 c8, x = .agg [c0, c1, c2, c3, c4, c5, c6, c7, c8] ∧ o.call 78 [.agg [.d c0, .d c1, .d c2, .d c3, .d c4, .d c5, .d c6, .d c7, .d c8], .agg [.d c0, .d c1, .d c2, .d c3, .d c4, .d c5, .d c6, .d c7, .d c8]] [] = some ⟨.d (.bool true), [], []⟩) : ∀ (m : Nat) (k : Int), 0 ≤ k → k + m = n → (o.loop 5400 ⟨[.d (.lst xs), .d (.lst xs), .undef, .undef, .undef, .d (.int .i64 k), .undef, .undef, .undef, .undef, .undef, .undef, .undef, .undef, .undef, .undef, .undef, .undef, .undef, .undef, .undef, .undef, .undef, .undef, .undef, .undef, .undef], [[], [], [], [], [], [], [], [], [], [], [], [], [], [], [], [], [], [], [], [], [], [], [], [], [], [], []]⟩ = some (.exit 0, ⟨[.undef, .undef, .undef, .undef, .undef, .undef, .undef, .undef, .undef, .undef, .undef, .undef, .undef, .undef, .undef, .undef, .undef, .undef, .undef, .undef, .undef, .undef, .undef, .undef, .undef, .undef, .undef], [[], [], [], [], [], [], [], [], [], [], [], [], [], [], [], [], [], [], [], [], [], [], [], [], [], [], []]⟩))
  | 0, k, h0, h => by
    have hk : k = n := by omega
    subst hk
    have h2 := lt_no ho k
    refine ho.loopR ?_
    cbv
    repeat ((first | rw [hn] | rw [h2]); (try cbv))
  | m + 1, k, h0, h => by
    have hl : (xs.length : Int) = n := by rw [← hn, ho.len]
    have hk : k.toNat < xs.length := by omega
    obtain ⟨x, hxk⟩ : ∃ x, xs[k.toNat]? = some x := ⟨_, List.getElem?_eq_getElem hk⟩
    obtain ⟨c0, c1, c2, c3, c4, c5, c6, c7, c8, rfl, hc⟩ := hx x (List.mem_of_getElem? hxk)
    have ih := eqWorkerS_loop xs n hn hm hx m (k + 1) (by omega) (by omega)
    have h2 := lt_yes ho (show k < n by omega)
    have h3 : o.elt xs k = some (.agg [c0, c1, c2, c3, c4, c5, c6, c7, c8]) := elt_some ho xs k _ h0 hxk
    have h4 := inc ho h0 (show k < n by omega) hm
    refine ho.loopR ?_
    cbv
    repeat ((first | rw [hn] | rw [h2] | rw [h3] | rw [hc] | rw [h4] | exact ih); (try cbv))
theorem eqWorkerS {n : Nat} (ih : EqAll o n) : EqWorkerS o (n + 1) := by
  intro xs h
  obtain ⟨ys, m, em, e_, w, v⟩ := fits_lst Try.underlying45 h; injection e_ with e_; injection e_ with e_; subst e_; injection em with em; subst em
  have hm : ((xs.length : Nat) : Int) ≤ 9223372036854775807 := by unfold maxLen at w; omega
  have hx : ∀ x ∈ xs, ∃ c0 c1 c2 c3 c4 c5 c6 c7 c8, x = .agg [c0, c1, c2, c3, c4, c5, c6, c7, c8] ∧ o.call 78 [.agg [.d c0, .d c1, .d c2, .d c3, .d c4, .d c5, .d c6, .d c7, .d c8], .agg [.d c0, .d c1, .d c2, .d c3, .d c4, .d c5, .d c6, .d c7, .d c8]] [] = some ⟨.d (.bool true), [], []⟩ := by
    intro x hx
    obtain ⟨f1, f2⟩ := v x hx
    rw [show aggT Try.prog 77 = true by unfold aggT; rw [Try.underlying77]] at f2
    cases n with
    | zero => simp [Fits] at f1
    | succ n =>
      obtain ⟨c0, c1, c2, c3, c4, c5, c6, c7, c8, e1, _⟩ := fits77 f1
      have q := (ih.2.2.2.2.2.2.2.2.2.1) _ f1
      rw [e1] at q
      exact ⟨c0, c1, c2, c3, c4, c5, c6, c7, c8, by rw [many_agg f2, e1], q⟩
  have hn : o.len xs = ((xs.length : Nat) : Int) := ho.len xs
  generalize hN : ((xs.length : Nat) : Int) = N at hn hm
  have h1 := eqWorkerS_loop ho xs N hn hm hx xs.length 0 (Int.le_refl _) (by omega)
  have h2 := eq_int ho N
  refine ho.callR ?_
  cbv
  repeat ((first | rw [hn] | rw [h2] | rw [h1]); (try cbv))
theorem eqKid {n : Nat} (ih : EqAll o n) : EqKid o (n + 1) := by
  intro ds h
  have q := h
  obtain ⟨ac0, ac1, ac2, ac3, ac4, ac5, ac6, rfl, ah0, ah1, ah2, ah3⟩ := fits97 h
  obtain ⟨x0, e_, w0⟩ := fits_str Try.underlying9 ah0; injection e_ with e_; subst e_
  obtain ⟨x1, e_, w1⟩ := fits_str Try.underlying9 ah1; injection e_ with e_; subst e_
  have q2 := (ih.2.2.2.2.2.2.2.2.2.2.1) _ ah2
  simp only [List.map] at q2
  obtain ⟨x3, e_, w3⟩ := fits_int Try.underlying3 ah3; injection e_ with e_; subst e_
  refine ho.callR ?_
  cbv
  repeat ((first | rw [eq_int ho] | rw [eq_str ho] | rw [q2]); (try cbv))
theorem eqEntry {n : Nat} (ih : EqAll o n) : EqEntry o (n + 1) := by
  intro ds h
  have q := h
  obtain ⟨ac0, ac1, ac2, ac3, ac4, ac5, ac6, rfl, ah0, ah1, ah2, ah3, ah4⟩ := fits116 h
  obtain ⟨x0, e_, w0⟩ := fits_str Try.underlying9 ah0; injection e_ with e_; subst e_
  obtain ⟨x1, e_, w1⟩ := fits_int Try.underlying3 ah1; injection e_ with e_; subst e_
  have q2 := (ih.2.2.2.2.2.2.2.2.2.2.2.1) _ ah2
  simp only [List.map] at q2
  obtain ⟨x3, e_⟩ := fits_bool Try.underlying4 ah3; injection e_ with e_; subst e_
  have hb3 : (x3 != x3) = false := by simp
  have q4 := (ih.2.2.2.2.2.2.2.2.2.2.2.1) _ ah4
  simp only [List.map] at q4
  refine ho.callR ?_
  cbv
  repeat ((first | rw [eq_int ho] | rw [eq_str ho] | rw [q2] | rw [hb3] | rw [q4]); (try cbv))
theorem eqWorker {n : Nat} (ih : EqAll o n) : EqWorker o (n + 1) := by
  intro ds h
  have q := h
  obtain ⟨ac0, ac1, ac2, ac3, ac4, ac5, ac6, ac7, ac8, rfl, ah0, ah1, ah2, ah3, ah4, ah5⟩ := fits77 h
  obtain ⟨x0, e_, w0⟩ := fits_int Try.underlying3 ah0; injection e_ with e_; subst e_
  obtain ⟨x1, e_, w1⟩ := fits_str Try.underlying9 ah1; injection e_ with e_; subst e_
  obtain ⟨x2, e_, w2⟩ := fits_str Try.underlying9 ah2; injection e_ with e_; subst e_
  obtain ⟨x3, e_, w3⟩ := fits_int Try.underlying3 ah3; injection e_ with e_; subst e_
  have q4 := (ih.2.2.2.2.2.2.2.2.2.2.1) _ ah4
  simp only [List.map] at q4
  have k5 := ah5; obtain ⟨x5, m5, em5, e_, w5, v5⟩ := fits_lst Try.underlying73 ah5; injection e_ with e_; subst e_
  have q5 := (ih.2.2.2.2.2.2.2.2.2.2.2.2.1) x5 k5
  refine ho.callR ?_
  cbv
  repeat ((first | rw [eq_int ho] | rw [eq_str ho] | rw [q4] | rw [q5]); (try cbv))
theorem eqTerm {n : Nat} (ih : EqAll o n) : EqTerm o (n + 1) := by
  intro ds h
  have q := h
  obtain ⟨ac0, ac1, ac2, ac3, rfl, ah0, ah1, ah2, ah3⟩ := fits75 h
  obtain ⟨x0, e_, w0⟩ := fits_int Try.underlying3 ah0; injection e_ with e_; subst e_
  obtain ⟨x1, e_, w1⟩ := fits_int Try.underlying3 ah1; injection e_ with e_; subst e_
  obtain ⟨x2, e_, w2⟩ := fits_str Try.underlying9 ah2; injection e_ with e_; subst e_
  have k3 := ah3; obtain ⟨x3, m3, em3, e_, w3, v3⟩ := fits_lst Try.underlying73 ah3; injection e_ with e_; subst e_
  have q3 := (ih.2.2.2.2.2.2.2.2.2.2.2.2.1) x3 k3
  refine ho.callR ?_
  cbv
  repeat ((first | rw [eq_int ho] | rw [eq_str ho] | rw [q3]); (try cbv))
theorem eqCode {n : Nat} (ih : EqAll o n) : EqCode o (n + 1) := by
  intro ds h
  have q := h
  obtain ⟨ac0, ac1, rfl, ah0, ah1⟩ := fits85 h
  have k0 := ah0; obtain ⟨x0, m0, em0, e_, w0, v0⟩ := fits_lst Try.underlying82 ah0; injection e_ with e_; subst e_
  have q0 := (ih.2.2.2.2.2.2.2.2.2.2.2.2.2.1) x0 k0
  have k1 := ah1; obtain ⟨x1, m1, em1, e_, w1, v1⟩ := fits_lst Try.underlying83 ah1; injection e_ with e_; subst e_
  have q1 := (ih.2.2.2.2.2.2.2.2.2.2.2.2.2.2.1) x1 k1
  refine ho.callR ?_
  cbv
  repeat ((first | rw [eq_int ho] | rw [eq_str ho] | rw [q0] | rw [q1]); (try cbv))
theorem eqTermS_loop (xs : List D) (n : Int) (hn : o.len xs = n) (hm : n ≤ 9223372036854775807) (hx : ∀ x ∈ xs, ∃ c0 c1 c2 c3, x = .agg [c0, c1, c2, c3] ∧ o.call 93 [.agg [.d c0, .d c1, .d c2, .d c3], .agg [.d c0, .d c1, .d c2, .d c3]] [] = some ⟨.d (.bool true), [], []⟩) : ∀ (m : Nat) (k : Int), 0 ≤ k → k + m = n → (o.loop 9900 ⟨[.d (.lst xs), .d (.lst xs), .undef, .undef, .undef, .d (.int .i64 k), .undef, .undef, .undef, .undef, .undef, .undef, .undef, .undef, .undef, .undef, .undef, .undef, .undef, .undef, .undef, .undef, .undef, .undef, .undef, .undef, .undef], [[], [], [], [], [], [], [], [], [], [], [], [], [], [], [], [], [], [], [], [], [], [], [], [], [], [], []]⟩ = some (.exit 0, ⟨[.undef, .undef, .undef, .undef, .undef, .undef, .undef, .undef, .undef, .undef, .undef, .undef, .undef, .undef, .undef, .undef, .undef, .undef, .undef, .undef, .undef, .undef, .undef, .undef, .undef, .undef, .undef], [[], [], [], [], [], [], [], [], [], [], [], [], [], [], [], [], [], [], [], [], [], [], [], [], [], [], []]⟩))
  | 0, k, h0, h => by
    have hk : k = n := by omega
    subst hk
    have h2 := lt_no ho k
    refine ho.loopR ?_
    cbv
    repeat ((first | rw [hn] | rw [h2]); (try cbv))
  | m + 1, k, h0, h => by
    have hl : (xs.length : Int) = n := by rw [← hn, ho.len]
    have hk : k.toNat < xs.length := by omega
    obtain ⟨x, hxk⟩ : ∃ x, xs[k.toNat]? = some x := ⟨_, List.getElem?_eq_getElem hk⟩
    obtain ⟨c0, c1, c2, c3, rfl, hc⟩ := hx x (List.mem_of_getElem? hxk)
    have ih := eqTermS_loop xs n hn hm hx m (k + 1) (by omega) (by omega)
    have h2 := lt_yes ho (show k < n by omega)
    have h3 : o.elt xs k = some (.agg [c0, c1, c2, c3]) := elt_some ho xs k _ h0 hxk
    have h4 := inc ho h0 (show k < n by omega) hm
    refine ho.loopR ?_
    cbv
    repeat ((first | rw [hn] | rw [h2] | rw [h3] | rw [hc] | rw [h4] | exact ih); (try cbv))
theorem eqTermS {n : Nat} (ih : EqAll o n) : EqTermS o (n + 1) := by
  intro xs h
  obtain ⟨ys, m, em, e_, w, v⟩ := fits_lst Try.underlying73 h; injection e_ with e_; injection e_ with e_; subst e_; injection em with em; subst em
  have hm : ((xs.length : Nat) : Int) ≤ 9223372036854775807 := by unfold maxLen at w; omega
  have hx : ∀ x ∈ xs, ∃ c0 c1 c2 c3, x = .agg [c0, c1, c2, c3] ∧ o.call 93 [.agg [.d c0, .d c1, .d c2, .d c3], .agg [.d c0, .d c1, .d c2, .d c3]] [] = some ⟨.d (.bool true), [], []⟩ := by
    intro x hx
    obtain ⟨f1, f2⟩ := v x hx
    rw [show aggT Try.prog 75 = true by unfold aggT; rw [Try.underlying75]] at f2
    cases n with
    | zero => simp [Fits] at f1
    | succ n =>
      obtain ⟨c0, c1, c2, c3, e1, _⟩ := fits75 f1
      have q := (ih.2.2.2.2.2.2.2.2.2.2.1) _ f1
      rw [e1] at q
      exact ⟨c0, c1, c2, c3, by rw [many_agg f2, e1], q⟩
  have hn : o.len xs = ((xs.length : Nat) : Int) := ho.len xs
  generalize hN : ((xs.length : Nat) : Int) = N at hn hm
  have h1 := eqTermS_loop ho xs N hn hm hx xs.length 0 (Int.le_refl _) (by omega)
  have h2 := eq_int ho N
  refine ho.callR ?_
  cbv
  repeat ((first | rw [hn] | rw [h2] | rw [h1]); (try cbv))
theorem eqFnS_loop (xs : List D) (n : Int) (hn : o.len xs = n) (hm : n ≤ 9223372036854775807) (hx : ∀ x ∈ xs, ∃ c0 c1 c2 c3, x = .agg [c0, c1, c2, c3] ∧ o.call 121 [.agg [.d c0, .d c1, .d c2, .d c3], .agg [.d c0, .d c1, .d c2, .d c3]] [] = some ⟨.d (.bool true), [], []⟩) : ∀ (m : Nat) (k : Int), 0 ≤ k → k + m = n → (o.loop 11200 ⟨[.d (.lst xs), .d (.lst xs), .undef, .undef, .undef, .d (.int .i64 k), .undef, .undef, .undef, .undef, .undef, .undef, .undef, .undef, .undef, .undef, .undef, .undef, .undef, .undef, .undef, .undef, .undef, .undef, .undef, .undef, .undef], [[], [], [], [], [], [], [], [], [], [], [], [], [], [], [], [], [], [], [], [], [], [], [], [], [], [], []]⟩ = some (.exit 0, ⟨[.undef, .undef, .undef, .undef, .undef, .undef, .undef, .undef, .undef, .undef, .undef, .undef, .undef, .undef, .undef, .undef, .undef, .undef, .undef, .undef, .undef, .undef, .undef, .undef, .undef, .undef, .undef], [[], [], [], [], [], [], [], [], [], [], [], [], [], [], [], [], [], [], [], [], [], [], [], [], [], [], []]⟩))
  | 0, k, h0, h => by
    have hk : k = n := by omega
    subst hk
    have h2 := lt_no ho k
    refine ho.loopR ?_
    cbv
    repeat ((first | rw [hn] | rw [h2]); (try cbv))
  | m + 1, k, h0, h => by
    have hl : (xs.length : Int) = n := by rw [← hn, ho.len]
    have hk : k.toNat < xs.length := by omega
    obtain ⟨x, hxk⟩ : ∃ x, xs[k.toNat]? = some x := ⟨_, List.getElem?_eq_getElem hk⟩
    obtain ⟨c0, c1, c2, c3, rfl, hc⟩ := hx x (List.mem_of_getElem? hxk)
    have ih := eqFnS_loop xs n hn hm hx m (k + 1) (by omega) (by omega)
    have h2 := lt_yes ho (show k < n by omega)
    have h3 : o.elt xs k = some (.agg [c0, c1, c2, c3]) := elt_some ho xs k _ h0 hxk
    have h4 := inc ho h0 (show k < n by omega) hm
    refine ho.loopR ?_
    cbv
    repeat ((first | rw [hn] | rw [h2] | rw [h3] | rw [hc] | rw [h4] | exact ih); (try cbv))
theorem eqFnS {n : Nat} (ih : EqAll o n) : EqFnS o (n + 1) := by
  intro xs h
  obtain ⟨ys, m, em, e_, w, v⟩ := fits_lst Try.underlying82 h; injection e_ with e_; injection e_ with e_; subst e_; injection em with em; subst em
  have hm : ((xs.length : Nat) : Int) ≤ 9223372036854775807 := by unfold maxLen at w; omega
  have hx : ∀ x ∈ xs, ∃ c0 c1 c2 c3, x = .agg [c0, c1, c2, c3] ∧ o.call 121 [.agg [.d c0, .d c1, .d c2, .d c3], .agg [.d c0, .d c1, .d c2, .d c3]] [] = some ⟨.d (.bool true), [], []⟩ := by
    intro x hx
    obtain ⟨f1, f2⟩ := v x hx
    rw [show aggT Try.prog 160 = true by unfold aggT; rw [Try.underlying160]] at f2
    cases n with
    | zero => simp [Fits] at f1
    | succ n =>
      obtain ⟨c0, c1, c2, c3, e1, _⟩ := fits160 f1
      have q := (ih.2.2.2.2.2.2.2.2.2.2.2.2.2.2.2.1) _ f1
      rw [e1] at q
      exact ⟨c0, c1, c2, c3, by rw [many_agg f2, e1], q⟩
  have hn : o.len xs = ((xs.length : Nat) : Int) := ho.len xs
  generalize hN : ((xs.length : Nat) : Int) = N at hn hm
  have h1 := eqFnS_loop ho xs N hn hm hx xs.length 0 (Int.le_refl _) (by omega)
  have h2 := eq_int ho N
  refine ho.callR ?_
  cbv
  repeat ((first | rw [hn] | rw [h2] | rw [h1]); (try cbv))
theorem eqPatS_loop (xs : List D) (n : Int) (hn : o.len xs = n) (hm : n ≤ 9223372036854775807) (hx : ∀ x ∈ xs, ∃ c0 c1 c2 c3, x = .agg [c0, c1, c2, c3] ∧ o.call 122 [.agg [.d c0, .d c1, .d c2, .d c3], .agg [.d c0, .d c1, .d c2, .d c3]] [] = some ⟨.d (.bool true), [], []⟩) : ∀ (m : Nat) (k : Int), 0 ≤ k → k + m = n → (o.loop 11300 ⟨[.d (.lst xs), .d (.lst xs), .undef, .undef, .undef, .d (.int .i64 k), .undef, .undef, .undef, .undef, .undef, .undef, .undef, .undef, .undef, .undef, .undef, .undef, .undef, .undef, .undef, .undef, .undef, .undef, .undef, .undef, .undef], [[], [], [], [], [], [], [], [], [], [], [], [], [], [], [], [], [], [], [], [], [], [], [], [], [], [], []]⟩ = some (.exit 0, ⟨[.undef, .undef, .undef, .undef, .undef, .undef, .undef, .undef, .undef, .undef, .undef, .undef, .undef, .undef, .undef, .undef, .undef, .undef, .undef, .undef, .undef, .undef, .undef, .undef, .undef, .undef, .undef], [[], [], [], [], [], [], [], [], [], [], [], [], [], [], [], [], [], [], [], [], [], [], [], [], [], [], []]⟩))
  | 0, k, h0, h => by
    have hk : k = n := by omega
    subst hk
    have h2 := lt_no ho k
    refine ho.loopR ?_
    cbv
    repeat ((first | rw [hn] | rw [h2]); (try cbv))
  | m + 1, k, h0, h => by
    have hl : (xs.length : Int) = n := by rw [← hn, ho.len]
    have hk : k.toNat < xs.length := by omega
    obtain ⟨x, hxk⟩ : ∃ x, xs[k.toNat]? = some x := ⟨_, List.getElem?_eq_getElem hk⟩
    obtain ⟨c0, c1, c2, c3, rfl, hc⟩ := hx x (List.mem_of_getElem? hxk)
    have ih := eqPatS_loop xs n hn hm hx m (k + 1) (by omega) (by omega)
    have h2 := lt_yes ho (show k < n by omega)
    have h3 : o.elt xs k = some (.agg [c0, c1, c2, c3]) := elt_some ho xs k _ h0 hxk
    have h4 := inc ho h0 (show k < n by omega) hm
    refine ho.loopR ?_
    cbv
    repeat ((first | rw [hn] | rw [h2] | rw [h3] | rw [hc] | rw [h4] | exact ih); (try cbv))
theorem eqPatS {n : Nat} (ih : EqAll o n) : EqPatS o (n + 1) := by
  intro xs h
  obtain ⟨ys, m, em, e_, w, v⟩ := fits_lst Try.underlying83 h; injection e_ with e_; injection e_ with e_; subst e_; injection em with em; subst em
  have hm : ((xs.length : Nat) : Int) ≤ 9223372036854775807 := by unfold maxLen at w; omega
  have hx : ∀ x ∈ xs, ∃ c0 c1 c2 c3, x = .agg [c0, c1, c2, c3] ∧ o.call 122 [.agg [.d c0, .d c1, .d c2, .d c3], .agg [.d c0, .d c1, .d c2, .d c3]] [] = some ⟨.d (.bool true), [], []⟩ := by
    intro x hx
    obtain ⟨f1, f2⟩ := v x hx
    rw [show aggT Try.prog 163 = true by unfold aggT; rw [Try.underlying163]] at f2
    cases n with
    | zero => simp [Fits] at f1
    | succ n =>
      obtain ⟨c0, c1, c2, c3, e1, _⟩ := fits163 f1
      have q := (ih.2.2.2.2.2.2.2.2.2.2.2.2.2.2.2.2.1) _ f1
      rw [e1] at q
      exact ⟨c0, c1, c2, c3, by rw [many_agg f2, e1], q⟩
  have hn : o.len xs = ((xs.length : Nat) : Int) := ho.len xs
  generalize hN : ((xs.length : Nat) : Int) = N at hn hm
  have h1 := eqPatS_loop ho xs N hn hm hx xs.length 0 (Int.le_refl _) (by omega)
  have h2 := eq_int ho N
  refine ho.callR ?_
  cbv
  repeat ((first | rw [hn] | rw [h2] | rw [h1]); (try cbv))
theorem eqFn {n : Nat} (ih : EqAll o n) : EqFn o (n + 1) := by
  intro ds h
  have q := h
  obtain ⟨ac0, ac1, ac2, ac3, rfl, ah0, ah1, ah2, ah3⟩ := fits160 h
  obtain ⟨x0, e_, w0⟩ := fits_str Try.underlying9 ah0; injection e_ with e_; subst e_
  obtain ⟨x1, e_, w1⟩ := fits_int Try.underlying3 ah1; injection e_ with e_; subst e_
  obtain ⟨x2, e_, w2⟩ := fits_int Try.underlying3 ah2; injection e_ with e_; subst e_
  have k3 := ah3; obtain ⟨x3, m3, em3, e_, w3, v3⟩ := fits_lst Try.underlying158 ah3; injection e_ with e_; subst e_
  have q3 := (ih.2.2.2.2.2.2.2.2.2.2.2.2.2.2.2.2.2.1) x3 k3
  refine ho.callR ?_
  cbv
  repeat ((first | rw [eq_int ho] | rw [eq_str ho] | rw [q3]); (try cbv))
theorem eqPat {n : Nat} (ih : EqAll o n) : EqPat o (n + 1) := by
  intro ds h
  have q := h
  obtain ⟨ac0, ac1, ac2, ac3, rfl, ah0, ah1, ah2, ah3⟩ := fits163 h
  obtain ⟨x0, e_, w0⟩ := fits_int Try.underlying3 ah0; injection e_ with e_; subst e_
  obtain ⟨x1, e_, w1⟩ := fits_int Try.underlying3 ah1; injection e_ with e_; subst e_
  obtain ⟨x2, e_, w2⟩ := fits_str Try.underlying9 ah2; injection e_ with e_; subst e_
  have k3 := ah3; obtain ⟨x3, m3, em3, e_, w3, v3⟩ := fits_lst Try.underlying83 ah3; injection e_ with e_; subst e_
  have q3 := (ih.2.2.2.2.2.2.2.2.2.2.2.2.2.2.1) x3 k3
  refine ho.callR ?_
  cbv
  repeat ((first | rw [eq_int ho] | rw [eq_str ho] | rw [q3]); (try cbv))
theorem eqInsS_loop (xs : List D) (n : Int) (hn : o.len xs = n) (hm : n ≤ 9223372036854775807) (hx : ∀ x ∈ xs, ∃ c0 c1 c2 c3, x = .agg [c0, c1, c2, c3] ∧ o.call 128 [.agg [.d c0, .d c1, .d c2, .d c3], .agg [.d c0, .d c1, .d c2, .d c3]] [] = some ⟨.d (.bool true), [], []⟩) : ∀ (m : Nat) (k : Int), 0 ≤ k → k + m = n → (o.loop 12500 ⟨[.d (.lst xs), .d (.lst xs), .undef, .undef, .undef, .d (.int .i64 k), .undef, .undef, .undef, .undef, .undef, .undef, .undef, .undef, .undef, .undef, .undef, .undef, .undef, .undef, .undef, .undef, .undef, .undef, .undef, .undef, .undef], [[], [], [], [], [], [], [], [], [], [], [], [], [], [], [], [], [], [], [], [], [], [], [], [], [], [], []]⟩ = some (.exit 0, ⟨[.undef, .undef, .undef, .undef, .undef, .undef, .undef, .undef, .undef, .undef, .undef, .undef, .undef, .undef, .undef, .undef, .undef, .undef, .undef, .undef, .undef, .undef, .undef, .undef, .undef, .undef, .undef], [[], [], [], [], [], [], [], [], [], [], [], [], [], [], [], [], [], [], [], [], [], [], [], [], [], [], []]⟩))
  | 0, k, h0, h => by
    have hk : k = n := by omega
    subst hk
    have h2 := lt_no ho k
    refine ho.loopR ?_
    cbv
    repeat ((first | rw [hn] | rw [h2]); (try cbv))
  | m + 1, k, h0, h => by
    have hl : (xs.length : Int) = n := by rw [← hn, ho.len]
    have hk : k.toNat < xs.length := by omega
    obtain ⟨x, hxk⟩ : ∃ x, xs[k.toNat]? = some x := ⟨_, List.getElem?_eq_getElem hk⟩
    obtain ⟨c0, c1, c2, c3, rfl, hc⟩ := hx x (List.mem_of_getElem? hxk)
    have ih := eqInsS_loop xs n hn hm hx m (k + 1) (by omega) (by omega)
    have h2 := lt_yes ho (show k < n by omega)
    have h3 : o.elt xs k = some (.agg [c0, c1, c2, c3]) := elt_some ho xs k _ h0 hxk
    have h4 := inc ho h0 (show k < n by omega) hm
    refine ho.loopR ?_
    cbv
    repeat ((first | rw [hn] | rw [h2] | rw [h3] | rw [hc] | rw [h4] | exact ih); (try cbv))
theorem eqInsS {n : Nat} (ih : EqAll o n) : EqInsS o (n + 1) := by
  intro xs h
  obtain ⟨ys, m, em, e_, w, v⟩ := fits_lst Try.underlying158 h; injection e_ with e_; injection e_ with e_; subst e_; injection em with em; subst em
  have hm : ((xs.length : Nat) : Int) ≤ 9223372036854775807 := by unfold maxLen at w; omega
  have hx : ∀ x ∈ xs, ∃ c0 c1 c2 c3, x = .agg [c0, c1, c2, c3] ∧ o.call 128 [.agg [.d c0, .d c1, .d c2, .d c3], .agg [.d c0, .d c1, .d c2, .d c3]] [] = some ⟨.d (.bool true), [], []⟩ := by
    intro x hx
    obtain ⟨f1, f2⟩ := v x hx
    rw [show aggT Try.prog 173 = true by unfold aggT; rw [Try.underlying173]] at f2
    cases n with
    | zero => simp [Fits] at f1
    | succ n =>
      obtain ⟨c0, c1, c2, c3, e1, _⟩ := fits173 f1
      have q := (ih.2.2.2.2.2.2.2.2.2.2.2.2.2.2.2.2.2.2) _ f1
      rw [e1] at q
      exact ⟨c0, c1, c2, c3, by rw [many_agg f2, e1], q⟩
  have hn : o.len xs = ((xs.length : Nat) : Int) := ho.len xs
  generalize hN : ((xs.length : Nat) : Int) = N at hn hm
  have h1 := eqInsS_loop ho xs N hn hm hx xs.length 0 (Int.le_refl _) (by omega)
  have h2 := eq_int ho N
  refine ho.callR ?_
  cbv
  repeat ((first | rw [hn] | rw [h2] | rw [h1]); (try cbv))
theorem eqIns {n : Nat} (ih : EqAll o n) : EqIns o (n + 1) := by
  intro ds h
  have q := h
  obtain ⟨ac0, ac1, ac2, ac3, rfl, ah0, ah1, ah2, ah3⟩ := fits173 h
  obtain ⟨x0, e_, w0⟩ := fits_int Try.underlying3 ah0; injection e_ with e_; subst e_
  obtain ⟨x1, e_, w1⟩ := fits_int Try.underlying3 ah1; injection e_ with e_; subst e_
  obtain ⟨x2, e_, w2⟩ := fits_str Try.underlying9 ah2; injection e_ with e_; subst e_
  obtain ⟨x3, e_, w3⟩ := fits_int Try.underlying3 ah3; injection e_ with e_; subst e_
  refine ho.callR ?_
  cbv
  repeat ((first | rw [eq_int ho] | rw [eq_str ho]); (try cbv))
theorem eqAll : ∀ n, EqAll o n
  | 0 => by
    unfold EqAll
    refine ⟨?_, ?_, ?_, ?_, ?_, ?_, ?_, ?_, ?_, ?_, ?_, ?_, ?_, ?_, ?_, ?_, ?_, ?_, ?_⟩ <;> (intro x h; simp [Fits] at h)
  | n + 1 => have ih := eqAll n; ⟨eqOver ho ih, eqHouse ho ih, eqKidS ho ih, eqIntS ho ih, eqEntryS ho ih, eqOverS ho ih, eqWorkerS ho ih, eqKid ho ih, eqEntry ho ih, eqWorker ho ih, eqTerm ho ih, eqCode ho ih, eqTermS ho ih, eqFnS ho ih, eqPatS ho ih, eqFn ho ih, eqPat ho ih, eqInsS ho ih, eqIns ho ih⟩
end T1
