import Derived.Test.YtdkaahhcejipjaaD2
import Derived.Test.YtdkaahhcejipjaaProg
import Derived.KernelRfl
set_option linter.unusedVariables false
set_option linter.unusedSimpArgs false
open Go Go.Vi Go.Proofs
namespace T1
set_option maxRecDepth 100000
set_option maxHeartbeats 4000000
set_option linter.constructorNameAsVariable false
set_option linter.unusedVariables false
variable {o : Ora} (ho : IsDen vfun vloop o)
def ToOver (o : Ora) (n : Nat) : Prop := ∀ ds, Fits Try.prog n 25 ds → SmL 1048576 ds → o.call 11 [.agg (ds.map .d)] [] = some ⟨.agg (ds.map .d), [], []⟩
def ToHouse (o : Ora) (n : Nat) : Prop := ∀ ds, Fits Try.prog n 40 ds → SmL 1048576 ds → o.call 18 [.agg (ds.map .d)] [] = some ⟨.agg (ds.map .d), [], []⟩
def ToKidS (o : Ora) (n : Nat) : Prop := ∀ xs, Fits Try.prog n 22 [.lst xs] → Sm 1048576 (.lst xs) → o.call 35 [.d (.lst xs)] [] = some ⟨.d (.lst xs), [], []⟩
def ToIntS (o : Ora) (n : Nat) : Prop := ∀ xs, Fits Try.prog n 23 [.lst xs] → Sm 1048576 (.lst xs) → o.call 36 [.d (.lst xs)] [] = some ⟨.d (.lst xs), [], []⟩
def ToEntryS (o : Ora) (n : Nat) : Prop := ∀ xs, Fits Try.prog n 36 [.lst xs] → Sm 1048576 (.lst xs) → o.call 49 [.d (.lst xs)] [] = some ⟨.d (.lst xs), [], []⟩
def ToOverS (o : Ora) (n : Nat) : Prop := ∀ xs, Fits Try.prog n 37 [.lst xs] → Sm 1048576 (.lst xs) → o.call 50 [.d (.lst xs)] [] = some ⟨.d (.lst xs), [], []⟩
def ToWorkerS (o : Ora) (n : Nat) : Prop := ∀ xs, Fits Try.prog n 38 [.lst xs] → Sm 1048576 (.lst xs) → o.call 51 [.d (.lst xs)] [] = some ⟨.d (.lst xs), [], []⟩
def ToKid (o : Ora) (n : Nat) : Prop := ∀ ds, Fits Try.prog n 95 ds → SmL 1048576 ds → o.call 64 [.agg (ds.map .d)] [] = some ⟨.agg (ds.map .d), [], []⟩
def ToEntry (o : Ora) (n : Nat) : Prop := ∀ ds, Fits Try.prog n 111 ds → SmL 1048576 ds → o.call 75 [.agg (ds.map .d)] [] = some ⟨.agg (ds.map .d), [], []⟩
def ToWorker (o : Ora) (n : Nat) : Prop := ∀ ds, Fits Try.prog n 114 ds → SmL 1048576 ds → o.call 76 [.agg (ds.map .d)] [] = some ⟨.agg (ds.map .d), [], []⟩
def ToTerm (o : Ora) (n : Nat) : Prop := ∀ ds, Fits Try.prog n 93 ds → SmL 1048576 ds → o.call 87 [.agg (ds.map .d)] [] = some ⟨.agg (ds.map .d), [], []⟩
def ToCode (o : Ora) (n : Nat) : Prop := ∀ ds, Fits Try.prog n 109 ds → SmL 1048576 ds → o.call 96 [.agg (ds.map .d)] [] = some ⟨.agg (ds.map .d), [], []⟩
def ToTermS (o : Ora) (n : Nat) : Prop := ∀ xs, Fits Try.prog n 91 [.lst xs] → Sm 1048576 (.lst xs) → o.call 97 [.d (.lst xs)] [] = some ⟨.d (.lst xs), [], []⟩
def ToFnS (o : Ora) (n : Nat) : Prop := ∀ xs, Fits Try.prog n 106 [.lst xs] → Sm 1048576 (.lst xs) → o.call 110 [.d (.lst xs)] [] = some ⟨.d (.lst xs), [], []⟩
def ToPatS (o : Ora) (n : Nat) : Prop := ∀ xs, Fits Try.prog n 107 [.lst xs] → Sm 1048576 (.lst xs) → o.call 111 [.d (.lst xs)] [] = some ⟨.d (.lst xs), [], []⟩
def ToFn (o : Ora) (n : Nat) : Prop := ∀ ds, Fits Try.prog n 154 ds → SmL 1048576 ds → o.call 119 [.agg (ds.map .d)] [] = some ⟨.agg (ds.map .d), [], []⟩
def ToPat (o : Ora) (n : Nat) : Prop := ∀ ds, Fits Try.prog n 157 ds → SmL 1048576 ds → o.call 120 [.agg (ds.map .d)] [] = some ⟨.agg (ds.map .d), [], []⟩
def ToInsS (o : Ora) (n : Nat) : Prop := ∀ xs, Fits Try.prog n 152 [.lst xs] → Sm 1048576 (.lst xs) → o.call 124 [.d (.lst xs)] [] = some ⟨.d (.lst xs), [], []⟩
def ToIns (o : Ora) (n : Nat) : Prop := ∀ ds, Fits Try.prog n 172 ds → SmL 1048576 ds → o.call 127 [.agg (ds.map .d)] [] = some ⟨.agg (ds.map .d), [], []⟩
def ToAll (o : Ora) (n : Nat) : Prop := ToOver o n ∧ ToHouse o n ∧ ToKidS o n ∧ ToIntS o n ∧ ToEntryS o n ∧ ToOverS o n ∧ ToWorkerS o n ∧ ToKid o n ∧ ToEntry o n ∧ ToWorker o n ∧ ToTerm o n ∧ ToCode o n ∧ ToTermS o n ∧ ToFnS o n ∧ ToPatS o n ∧ ToFn o n ∧ ToPat o n ∧ ToInsS o n ∧ ToIns o n
include ho
theorem toOver_ev (ac0 ac1 ac2 ac3 ac4 ac5 ac6 : D) (x3 : List D) (x4 : List D) (x5 : List D) (q3 : o.call 35 [.d (.lst x3)] [] = some ⟨.d (.lst x3), [], []⟩) (q4 : o.call 36 [.d (.lst x4)] [] = some ⟨.d (.lst x4), [], []⟩) (q5 : o.call 36 [.d (.lst x5)] [] = some ⟨.d (.lst x5), [], []⟩) : o.call 11 [.agg [.d ac0, .d ac1, .d ac2, .d (.lst x3), .d (.lst x4), .d (.lst x5), .d ac6]] [] = some ⟨.agg [.d ac0, .d ac1, .d ac2, .d (.lst x3), .d (.lst x4), .d (.lst x5), .d ac6], [], []⟩ := by
  refine ho.callR ?_
  cbv
  rw [q3]
  cbv
  rw [q4]
  cbv
  rw [q5]
  cbv
theorem toOver {n : Nat} (ih : ToAll o n) : ToOver o (n + 1) := by
  intro ds h hs
  obtain ⟨ac0, ac1, ac2, ac3, ac4, ac5, ac6, rfl, ah0, ah1, ah2, ah3, ah4, ah5, ah6⟩ := fits25 h
  simp only [SmL] at hs
  have k3 := ah3; obtain ⟨x3, m3, em3, e_, w3, v3⟩ := fits_lst Try.underlying22 ah3; injection e_ with e_; subst e_
  have q3 := (ih.2.2.1) x3 k3 (by simp [hs])
  have k4 := ah4; obtain ⟨x4, m4, em4, e_, w4, v4⟩ := fits_lst Try.underlying23 ah4; injection e_ with e_; subst e_
  have q4 := (ih.2.2.2.1) x4 k4 (by simp [hs])
  have k5 := ah5; obtain ⟨x5, m5, em5, e_, w5, v5⟩ := fits_lst Try.underlying23 ah5; injection e_ with e_; subst e_
  have q5 := (ih.2.2.2.1) x5 k5 (by simp [hs])
  exact toOver_ev ho ac0 ac1 ac2 (.lst []) (.lst []) (.lst []) ac6 x3 x4 x5 q3 q4 q5
theorem toHouse_ev (ac0 ac1 ac2 ac3 ac4 : D) (x0 : List D) (x1 : List D) (x2 : List D) (q0 : o.call 49 [.d (.lst x0)] [] = some ⟨.d (.lst x0), [], []⟩) (q1 : o.call 50 [.d (.lst x1)] [] = some ⟨.d (.lst x1), [], []⟩) (q2 : o.call 51 [.d (.lst x2)] [] = some ⟨.d (.lst x2), [], []⟩) : o.call 18 [.agg [.d (.lst x0), .d (.lst x1), .d (.lst x2), .d ac3, .d ac4]] [] = some ⟨.agg [.d (.lst x0), .d (.lst x1), .d (.lst x2), .d ac3, .d ac4], [], []⟩ := by
  refine ho.callR ?_
  cbv
  rw [q0]
  cbv
  rw [q1]
  cbv
  rw [q2]
  cbv
theorem toHouse {n : Nat} (ih : ToAll o n) : ToHouse o (n + 1) := by
  intro ds h hs
  obtain ⟨ac0, ac1, ac2, ac3, ac4, rfl, ah0, ah1, ah2, ah3, ah4⟩ := fits40 h
  simp only [SmL] at hs
  have k0 := ah0; obtain ⟨x0, m0, em0, e_, w0, v0⟩ := fits_lst Try.underlying36 ah0; injection e_ with e_; subst e_
  have q0 := (ih.2.2.2.2.1) x0 k0 (by simp [hs])
  have k1 := ah1; obtain ⟨x1, m1, em1, e_, w1, v1⟩ := fits_lst Try.underlying37 ah1; injection e_ with e_; subst e_
  have q1 := (ih.2.2.2.2.2.1) x1 k1 (by simp [hs])
  have k2 := ah2; obtain ⟨x2, m2, em2, e_, w2, v2⟩ := fits_lst Try.underlying38 ah2; injection e_ with e_; subst e_
  have q2 := (ih.2.2.2.2.2.2.1) x2 k2 (by simp [hs])
  exact toHouse_ev ho (.lst []) (.lst []) (.lst []) ac3 ac4 x0 x1 x2 q0 q1 q2
theorem toKidS_loop (xs : List D) (n : Int) (hn : o.len xs = n) (hm : n ≤ 9223372036854775807) (hx : ∀ x ∈ xs, ∃ c0 c1 c2 c3 c4 c5 c6, x = .agg [c0, c1, c2, c3, c4, c5, c6] ∧ o.call 64 [.agg [.d c0, .d c1, .d c2, .d c3, .d c4, .d c5, .d c6]] [] = some ⟨.agg [.d c0, .d c1, .d c2, .d c3, .d c4, .d c5, .d c6], [], []⟩) : ∀ (m : Nat) (k : Int) (ys : List D), 0 ≤ k → k + m = n → ys.length = xs.length → (∀ j, j < k.toNat → ys[j]? = xs[j]?) → (∀ y ∈ ys, ∃ d0 d1 d2 d3 d4 d5 d6, y = .agg [d0, d1, d2, d3, d4, d5, d6]) → o.loop 3500 ⟨[.d (.lst xs), .undef, .undef, .arr (7, 0) (97, 7) none true, .d (.int .i64 k), .undef, .undef, .undef, .undef, .undef, .undef, .undef, .undef, .undef, .undef, .undef, .undef, .undef, .undef, .undef, .undef, .undef, .undef], [[], [], [], [], [], [], [], [some (.rows (97, 7) ys)], [], [], [], [], [], [], [], [], [], [], [], [], [], [], []]⟩ = some (.exit 0, ⟨[.undef, .undef, .undef, .arr (7, 0) (97, 7) none true, .undef, .undef, .undef, .undef, .undef, .undef, .undef, .undef, .undef, .undef, .undef, .undef, .undef, .undef, .undef, .undef, .undef, .undef, .undef], [[], [], [], [], [], [], [], [some (.rows (97, 7) xs)], [], [], [], [], [], [], [], [], [], [], [], [], [], [], []]⟩)
  | 0, k, ys, h0, h, hy, hp, hd => by
    have hk : k = n := by omega
    subst hk
    have hl : (xs.length : Int) = k := by rw [← hn, ho.len]
    have he : ys = xs := by
      apply List.ext_getElem?
      intro j
      by_cases hj : j < k.toNat
      · exact hp j hj
      · rw [List.getElem?_eq_none (by omega), List.getElem?_eq_none (by omega)]
    subst he
    have h2 := lt_no ho k
    refine ho.loopR ?_
    cbv
    repeat ((first | rw [hn] | rw [h2]); (try cbv))
  | m + 1, k, ys, h0, h, hy, hp, hd => by
    have hl : (xs.length : Int) = n := by rw [← hn, ho.len]
    have hk : k.toNat < xs.length := by omega
    obtain ⟨x, hxk⟩ : ∃ x, xs[k.toNat]? = some x := ⟨_, List.getElem?_eq_getElem hk⟩
    obtain ⟨y, hyk⟩ : ∃ y, ys[k.toNat]? = some y := ⟨_, List.getElem?_eq_getElem (by omega)⟩
    obtain ⟨c0, c1, c2, c3, c4, c5, c6, rfl, hc⟩ := hx x (List.mem_of_getElem? hxk)
    obtain ⟨d0, d1, d2, d3, d4, d5, d6, rfl⟩ := hd y (List.mem_of_getElem? hyk)
    have ih := toKidS_loop xs n hn hm hx m (k + 1) (o.set ys k (.agg [c0, c1, c2, c3, c4, c5, c6])) (by omega) (by omega) (by rw [ho.set]; simpa using hy) (by
      rw [ho.set]
      intro j hj
      by_cases hjk : k.toNat = j
      · subst hjk; rw [List.getElem?_set_self (by omega)]; exact hxk.symm
      · rw [List.getElem?_set_ne hjk]; exact hp j (by omega)) (by
      rw [ho.set]
      intro y hy
      rcases List.mem_or_eq_of_mem_set hy with hy | rfl
      · exact hd y hy
      · exact ⟨c0, c1, c2, c3, c4, c5, c6, rfl⟩)
    have h2 := lt_yes ho (show k < n by omega)
    have h3 : o.elt xs k = some (.agg [c0, c1, c2, c3, c4, c5, c6]) := elt_some ho xs k _ h0 hxk
    have h5 := elt_some ho ys k _ h0 hyk
    have h4 := inc ho h0 (show k < n by omega) hm
    refine ho.loopR ?_
    cbv
    repeat ((first | rw [hn] | rw [h2] | rw [h3] | rw [h5] | rw [hc] |  rw [h4] | exact ih); (try cbv))
theorem toKidS {n : Nat} (ih : ToAll o n) : ToKidS o (n + 1) := by
  intro xs h hs
  obtain ⟨ys, m, em, e_, w, v⟩ := fits_lst Try.underlying22 h; injection e_ with e_; injection e_ with e_; subst e_; injection em with em; subst em
  simp only [Sm, SmL_iff] at hs
  have hm : ((xs.length : Nat) : Int) ≤ 1048576 := by omega
  have hx : ∀ x ∈ xs, ∃ c0 c1 c2 c3 c4 c5 c6, x = .agg [c0, c1, c2, c3, c4, c5, c6] ∧ o.call 64 [.agg [.d c0, .d c1, .d c2, .d c3, .d c4, .d c5, .d c6]] [] = some ⟨.agg [.d c0, .d c1, .d c2, .d c3, .d c4, .d c5, .d c6], [], []⟩ := by
    intro x hx
    obtain ⟨f1, f2⟩ := v x hx
    rw [show aggT Try.prog 95 = true by unfold aggT; rw [Try.underlying95]] at f2
    cases n with
    | zero => simp [Fits] at f1
    | succ n =>
      obtain ⟨c0, c1, c2, c3, c4, c5, c6, e1, _⟩ := fits95 f1
      have q := (ih.2.2.2.2.2.2.2.1) _ f1 (Sm_cells (hs.2 x hx))
      rw [e1] at q
      exact ⟨c0, c1, c2, c3, c4, c5, c6, by rw [many_agg f2, e1], q⟩
  have hn : o.len xs = ((xs.length : Nat) : Int) := ho.len xs
  have h0 : (0 : Int) ≤ ((xs.length : Nat) : Int) := by omega
  have hN2 : (((xs.length : Nat) : Int)).toNat = xs.length := by omega
  generalize hN : ((xs.length : Nat) : Int) = N at hn hm h0 hN2
  have h2 : o.cmp .eql N N = true := by rw [ho.cmp]; simp [cmpI]
  have h3 : o.fitsN 96 N = true := by rw [ho.fitsN]; simp; omega
  refine ho.callR ?_
  cbv
  repeat ((first | rw [hn] | rw [h2] | rw [h3] | rw [toKidS_loop ho xs N hn (by omega) hx xs.length 0 _ (Int.le_refl _) (by omega) (by rw [ho.rep]; simp [hN2]) (by intro j hj; simp at hj) (by rw [ho.rep]; intro y hy; rw [(List.mem_replicate.1 hy).2]; exact ⟨_, _, _, _, _, _, _, rfl⟩)]); (try cbv))
theorem toIntS_loop (xs : List D) (n : Int) (hn : o.len xs = n) (hm : n ≤ 9223372036854775807) (hx : ∀ x ∈ xs, ∃ i, x = .int .i64 i) : ∀ (m : Nat) (k : Int) (ys : List D), 0 ≤ k → k + m = n → ys.length = xs.length → (∀ j, j < k.toNat → ys[j]? = xs[j]?) → (∀ y ∈ ys, ∃ i, y = .int .i64 i) → o.loop 3600 ⟨[.d (.lst xs), .undef, .undef, .arr (7, 0) (3, 1) none true, .d (.int .i64 k), .undef, .undef, .undef, .undef, .undef, .undef, .undef, .undef, .undef, .undef, .undef, .undef, .undef, .undef, .undef, .undef, .undef], [[], [], [], [], [], [], [], [some (.rows (3, 1) ys)], [], [], [], [], [], [], [], [], [], [], [], [], [], []]⟩ = some (.exit 0, ⟨[.undef, .undef, .undef, .arr (7, 0) (3, 1) none true, .undef, .undef, .undef, .undef, .undef, .undef, .undef, .undef, .undef, .undef, .undef, .undef, .undef, .undef, .undef, .undef, .undef, .undef], [[], [], [], [], [], [], [], [some (.rows (3, 1) xs)], [], [], [], [], [], [], [], [], [], [], [], [], [], []]⟩)
  | 0, k, ys, h0, h, hy, hp, hd => by
    have hk : k = n := by omega
    subst hk
    have hl : (xs.length : Int) = k := by rw [← hn, ho.len]
    have he : ys = xs := by
      apply List.ext_getElem?
      intro j
      by_cases hj : j < k.toNat
      · exact hp j hj
      · rw [List.getElem?_eq_none (by omega), List.getElem?_eq_none (by omega)]
    subst he
    have h2 := lt_no ho k
    refine ho.loopR ?_
    cbv
    repeat ((first | rw [hn] | rw [h2]); (try cbv))
  | m + 1, k, ys, h0, h, hy, hp, hd => by
    have hl : (xs.length : Int) = n := by rw [← hn, ho.len]
    have hk : k.toNat < xs.length := by omega
    obtain ⟨x, hxk⟩ : ∃ x, xs[k.toNat]? = some x := ⟨_, List.getElem?_eq_getElem hk⟩
    obtain ⟨y, hyk⟩ : ∃ y, ys[k.toNat]? = some y := ⟨_, List.getElem?_eq_getElem (by omega)⟩
    obtain ⟨i, rfl⟩ := hx x (List.mem_of_getElem? hxk)
    obtain ⟨i2, rfl⟩ := hd y (List.mem_of_getElem? hyk)
    have ih := toIntS_loop xs n hn hm hx m (k + 1) (o.set ys k (.int .i64 i)) (by omega) (by omega) (by rw [ho.set]; simpa using hy) (by
      rw [ho.set]
      intro j hj
      by_cases hjk : k.toNat = j
      · subst hjk; rw [List.getElem?_set_self (by omega)]; exact hxk.symm
      · rw [List.getElem?_set_ne hjk]; exact hp j (by omega)) (by
      rw [ho.set]
      intro y hy
      rcases List.mem_or_eq_of_mem_set hy with hy | rfl
      · exact hd y hy
      · exact ⟨i, rfl⟩)
    have h2 := lt_yes ho (show k < n by omega)
    have h3 : o.elt xs k = some (.int .i64 i) := elt_some ho xs k _ h0 hxk
    have h5 := elt_some ho ys k _ h0 hyk
    have h4 := inc ho h0 (show k < n by omega) hm
    refine ho.loopR ?_
    cbv
    repeat ((first | rw [hn] | rw [h2] | rw [h3] | rw [h5] |  rw [h4] | exact ih); (try cbv))
theorem toIntS {n : Nat} (ih : ToAll o n) : ToIntS o (n + 1) := by
  intro xs h hs
  obtain ⟨ys, m, em, e_, w, v⟩ := fits_lst Try.underlying23 h; injection e_ with e_; injection e_ with e_; subst e_; injection em with em; subst em
  simp only [Sm, SmL_iff] at hs
  have hm : ((xs.length : Nat) : Int) ≤ 1048576 := by omega
  have hx : ∀ x ∈ xs, ∃ i, x = .int .i64 i := by
    intro x hx
    obtain ⟨f1, f2⟩ := v x hx
    rw [show aggT Try.prog 3 = false by unfold aggT; rw [Try.underlying3]] at f2
    obtain ⟨i, e1, _⟩ := fits_int Try.underlying3 f1
    rw [one_cell f2] at e1; injection e1 with e1; exact ⟨i, e1⟩
  have hn : o.len xs = ((xs.length : Nat) : Int) := ho.len xs
  have h0 : (0 : Int) ≤ ((xs.length : Nat) : Int) := by omega
  have hN2 : (((xs.length : Nat) : Int)).toNat = xs.length := by omega
  generalize hN : ((xs.length : Nat) : Int) = N at hn hm h0 hN2
  have h2 : o.cmp .eql N N = true := by rw [ho.cmp]; simp [cmpI]
  have h3 : o.fitsN 8 N = true := by rw [ho.fitsN]; simp; omega
  refine ho.callR ?_
  cbv
  repeat ((first | rw [hn] | rw [h2] | rw [h3] | rw [toIntS_loop ho xs N hn (by omega) hx xs.length 0 _ (Int.le_refl _) (by omega) (by rw [ho.rep]; simp [hN2]) (by intro j hj; simp at hj) (by rw [ho.rep]; intro y hy; rw [(List.mem_replicate.1 hy).2]; exact ⟨_, rfl⟩)]); (try cbv))
theorem toEntryS_loop (xs : List D) (n : Int) (hn : o.len xs = n) (hm : n ≤ 9223372036854775807) (hx : ∀ x ∈ xs, ∃ c0 c1 c2 c3 c4 c5 c6, x = .agg [c0, c1, c2, c3, c4, c5, c6] ∧ o.call 75 [.agg [.d c0, .d c1, .d c2, .d c3, .d c4, .d c5, .d c6]] [] = some ⟨.agg [.d c0, .d c1, .d c2, .d c3, .d c4, .d c5, .d c6], [], []⟩) : ∀ (m : Nat) (k : Int) (ys : List D), 0 ≤ k → k + m = n → ys.length = xs.length → (∀ j, j < k.toNat → ys[j]? = xs[j]?) → (∀ y ∈ ys, ∃ d0 d1 d2 d3 d4 d5 d6, y = .agg [d0, d1, d2, d3, d4, d5, d6]) → o.loop 4900 ⟨[.d (.lst xs), .undef, .undef, .arr (7, 0) (116, 7) none true, .d (.int .i64 k), .undef, .undef, .undef, .undef, .undef, .undef, .undef, .undef, .undef, .undef, .undef, .undef, .undef, .undef, .undef, .undef, .undef, .undef], [[], [], [], [], [], [], [], [some (.rows (116, 7) ys)], [], [], [], [], [], [], [], [], [], [], [], [], [], [], []]⟩ = some (.exit 0, ⟨[.undef, .undef, .undef, .arr (7, 0) (116, 7) none true, .undef, .undef, .undef, .undef, .undef, .undef, .undef, .undef, .undef, .undef, .undef, .undef, .undef, .undef, .undef, .undef, .undef, .undef, .undef], [[], [], [], [], [], [], [], [some (.rows (116, 7) xs)], [], [], [], [], [], [], [], [], [], [], [], [], [], [], []]⟩)
  | 0, k, ys, h0, h, hy, hp, hd => by
    have hk : k = n := by omega
    subst hk
    have hl : (xs.length : Int) = k := by rw [← hn, ho.len]
    have he : ys = xs := by
      apply List.ext_getElem?
      intro j
      by_cases hj : j < k.toNat
      · exact hp j hj
      · rw [List.getElem?_eq_none (by omega), List.getElem?_eq_none (by omega)]
    subst he
    have h2 := lt_no ho k
    refine ho.loopR ?_
    cbv
    repeat ((first | rw [hn] | rw [h2]); (try cbv))
  | m + 1, k, ys, h0, h, hy, hp, hd => by
    have hl : (xs.length : Int) = n := by rw [← hn, ho.len]
    have hk : k.toNat < xs.length := by omega
    obtain ⟨x, hxk⟩ : ∃ x, xs[k.toNat]? = some x := ⟨_, List.getElem?_eq_getElem hk⟩
    obtain ⟨y, hyk⟩ : ∃ y, ys[k.toNat]? = some y := ⟨_, List.getElem?_eq_getElem (by omega)⟩
    obtain ⟨c0, c1, c2, c3, c4, c5, c6, rfl, hc⟩ := hx x (List.mem_of_getElem? hxk)
    obtain ⟨d0, d1, d2, d3, d4, d5, d6, rfl⟩ := hd y (List.mem_of_getElem? hyk)
    have ih := toEntryS_loop xs n hn hm hx m (k + 1) (o.set ys k (.agg [c0, c1, c2, c3, c4, c5, c6])) (by omega) (by omega) (by rw [ho.set]; simpa using hy) (by
      rw [ho.set]
      intro j hj
      by_cases hjk : k.toNat = j
      · subst hjk; rw [List.getElem?_set_self (by omega)]; exact hxk.symm
      · rw [List.getElem?_set_ne hjk]; exact hp j (by omega)) (by
      rw [ho.set]
      intro y hy
      rcases List.mem_or_eq_of_mem_set hy with hy | rfl
      · exact hd y hy
      · exact ⟨c0, c1, c2, c3, c4, c5, c6, rfl⟩)
    have h2 := lt_yes ho (show k < n by omega)
    have h3 : o.elt xs k = some (.agg [c0, c1, c2, c3, c4, c5, c6]) := elt_some ho xs k _ h0 hxk
    have h5 := elt_some ho ys k _ h0 hyk
    have h4 := inc ho h0 (show k < n by omega) hm
    refine ho.loopR ?_
    cbv
    repeat ((first | rw [hn] | rw [h2] | rw [h3] | rw [h5] | rw [hc] |  rw [h4] | exact ih); (try cbv))
theorem toEntryS {n : Nat} (ih : ToAll o n) : ToEntryS o (n + 1) := by
  intro xs h hs
  obtain ⟨ys, m, em, e_, w, v⟩ := fits_lst Try.underlying36 h; injection e_ with e_; injection e_ with e_; subst e_; injection em with em; subst em
  simp only [Sm, SmL_iff] at hs
  have hm : ((xs.length : Nat) : Int) ≤ 1048576 := by omega
  have hx : ∀ x ∈ xs, ∃ c0 c1 c2 c3 c4 c5 c6, x = .agg [c0, c1, c2, c3, c4, c5, c6] ∧ o.call 75 [.agg [.d c0, .d c1, .d c2, .d c3, .d c4, .d c5, .d c6]] [] = some ⟨.agg [.d c0, .d c1, .d c2, .d c3, .d c4, .d c5, .d c6], [], []⟩ := by
    intro x hx
    obtain ⟨f1, f2⟩ := v x hx
    rw [show aggT Try.prog 111 = true by unfold aggT; rw [Try.underlying111]] at f2
    cases n with
    | zero => simp [Fits] at f1
    | succ n =>
      obtain ⟨c0, c1, c2, c3, c4, c5, c6, e1, _⟩ := fits111 f1
      have q := (ih.2.2.2.2.2.2.2.2.1) _ f1 (Sm_cells (hs.2 x hx))
      rw [e1] at q
      exact ⟨c0, c1, c2, c3, c4, c5, c6, by rw [many_agg f2, e1], q⟩
  have hn : o.len xs = ((xs.length : Nat) : Int) := ho.len xs
  have h0 : (0 : Int) ≤ ((xs.length : Nat) : Int) := by omega
  have hN2 : (((xs.length : Nat) : Int)).toNat = xs.length := by omega
  generalize hN : ((xs.length : Nat) : Int) = N at hn hm h0 hN2
  have h2 : o.cmp .eql N N = true := by rw [ho.cmp]; simp [cmpI]
  have h3 : o.fitsN 128 N = true := by rw [ho.fitsN]; simp; omega
  refine ho.callR ?_
  cbv
  repeat ((first | rw [hn] | rw [h2] | rw [h3] | rw [toEntryS_loop ho xs N hn (by omega) hx xs.length 0 _ (Int.le_refl _) (by omega) (by rw [ho.rep]; simp [hN2]) (by intro j hj; simp at hj) (by rw [ho.rep]; intro y hy; rw [(List.mem_replicate.1 hy).2]; exact ⟨_, _, _, _, _, _, _, rfl⟩)]); (try cbv))
theorem toOverS_loop (xs : List D) (n : Int) (hn : o.len xs = n) (hm : n ≤ 9223372036854775807) (hx : ∀ x ∈ xs, ∃ c0 c1 c2 c3 c4 c5 c6, x = .agg [c0, c1, c2, c3, c4, c5, c6] ∧ o.call 11 [.agg [.d c0, .d c1, .d c2, .d c3, .d c4, .d c5, .d c6]] [] = some ⟨.agg [.d c0, .d c1, .d c2, .d c3, .d c4, .d c5, .d c6], [], []⟩) : ∀ (m : Nat) (k : Int) (ys : List D), 0 ≤ k → k + m = n → ys.length = xs.length → (∀ j, j < k.toNat → ys[j]? = xs[j]?) → (∀ y ∈ ys, ∃ d0 d1 d2 d3 d4 d5 d6, y = .agg [d0, d1, d2, d3, d4, d5, d6]) → o.loop 5000 ⟨[.d (.lst xs), .undef, .undef, .arr (7, 0) (29, 7) none true, .d (.int .i64 k), .undef, .undef, .undef, .undef, .undef, .undef, .undef, .undef, .undef, .undef, .undef, .undef, .undef, .undef, .undef, .undef, .undef, .undef], [[], [], [], [], [], [], [], [some (.rows (29, 7) ys)], [], [], [], [], [], [], [], [], [], [], [], [], [], [], []]⟩ = some (.exit 0, ⟨[.undef, .undef, .undef, .arr (7, 0) (29, 7) none true, .undef, .undef, .undef, .undef, .undef, .undef, .undef, .undef, .undef, .undef, .undef, .undef, .undef, .undef, .undef, .undef, .undef, .undef, .undef], [[], [], [], [], [], [], [], [some (.rows (29, 7) xs)], [], [], [], [], [], [], [], [], [], [], [], [], [], [], []]⟩)
  | 0, k, ys, h0, h, hy, hp, hd => by
    have hk : k = n := by omega
    subst hk
    have hl : (xs.length : Int) = k := by rw [← hn, ho.len]
    have he : ys = xs := by
      apply List.ext_getElem?
      intro j
      by_cases hj : j < k.toNat
      · exact hp j hj
      · rw [List.getElem?_eq_none (by omega), List.getElem?_eq_none (by omega)]
    subst he
    have h2 := lt_no ho k
    refine ho.loopR ?_
    cbv
    repeat ((first | rw [hn] | rw [h2]); (try cbv))
  | m + 1, k, ys, h0, h, hy, hp, hd => by
    have hl : (xs.length : Int) = n := by rw [← hn, ho.len]
    have hk : k.toNat < xs.length := by omega
    obtain ⟨x, hxk⟩ : ∃ x, xs[k.toNat]? = some x := ⟨_, List.getElem?_eq_getElem hk⟩
    obtain ⟨y, hyk⟩ : ∃ y, ys[k.toNat]? = some y := ⟨_, List.getElem?_eq_getElem (by omega)⟩
    obtain ⟨c0, c1, c2, c3, c4, c5, c6, rfl, hc⟩ := hx x (List.mem_of_getElem? hxk)
    obtain ⟨d0, d1, d2, d3, d4, d5, d6, rfl⟩ := hd y (List.mem_of_getElem? hyk)
    have ih := toOverS_loop xs n hn hm hx m (k + 1) (o.set ys k (.agg [c0, c1, c2, c3, c4, c5, c6])) (by omega) (by omega) (by rw [ho.set]; simpa using hy) (by
      rw [ho.set]
      intro j hj
      by_cases hjk : k.toNat = j
      · subst hjk; rw [List.getElem?_set_self (by omega)]; exact hxk.symm
      · rw [List.getElem?_set_ne hjk]; exact hp j (by omega)) (by
      rw [ho.set]
      intro y hy
      rcases List.mem_or_eq_of_mem_set hy with hy | rfl
      · exact hd y hy
      · exact ⟨c0, c1, c2, c3, c4, c5, c6, rfl⟩)
    have h2 := lt_yes ho (show k < n by omega)
    have h3 : o.elt xs k = some (.agg [c0, c1, c2, c3, c4, c5, c6]) := elt_some ho xs k _ h0 hxk
    have h5 := elt_some ho ys k _ h0 hyk
    have h4 := inc ho h0 (show k < n by omega) hm
    refine ho.loopR ?_
    cbv
    repeat ((first | rw [hn] | rw [h2] | rw [h3] | rw [h5] | rw [hc] |  rw [h4] | exact ih); (try cbv))
theorem toOverS {n : Nat} (ih : ToAll o n) : ToOverS o (n + 1) := by
  intro xs h hs
  obtain ⟨ys, m, em, e_, w, v⟩ := fits_lst Try.underlying37 h; injection e_ with e_; injection e_ with e_; subst e_; injection em with em; subst em
  simp only [Sm, SmL_iff] at hs
  have hm : ((xs.length : Nat) : Int) ≤ 1048576 := by omega
  have hx : ∀ x ∈ xs, ∃ c0 c1 c2 c3 c4 c5 c6, x = .agg [c0, c1, c2, c3, c4, c5, c6] ∧ o.call 11 [.agg [.d c0, .d c1, .d c2, .d c3, .d c4, .d c5, .d c6]] [] = some ⟨.agg [.d c0, .d c1, .d c2, .d c3, .d c4, .d c5, .d c6], [], []⟩ := by
    intro x hx
    obtain ⟨f1, f2⟩ := v x hx
    rw [show aggT Try.prog 25 = true by unfold aggT; rw [Try.underlying25]] at f2
    cases n with
    | zero => simp [Fits] at f1
    | succ n =>
      obtain ⟨c0, c1, c2, c3, c4, c5, c6, e1, _⟩ := fits25 f1
      have q := (ih.1) _ f1 (Sm_cells (hs.2 x hx))
      rw [e1] at q
      exact ⟨c0, c1, c2, c3, c4, c5, c6, by rw [many_agg f2, e1], q⟩
  have hn : o.len xs = ((xs.length : Nat) : Int) := ho.len xs
  have h0 : (0 : Int) ≤ ((xs.length : Nat) : Int) := by omega
  have hN2 : (((xs.length : Nat) : Int)).toNat = xs.length := by omega
  generalize hN : ((xs.length : Nat) : Int) = N at hn hm h0 hN2
  have h2 : o.cmp .eql N N = true := by rw [ho.cmp]; simp [cmpI]
  have h3 : o.fitsN 104 N = true := by rw [ho.fitsN]; simp; omega
  refine ho.callR ?_
  cbv
  repeat ((first | rw [hn] | rw [h2] | rw [h3] | rw [toOverS_loop ho xs N hn (by omega) hx xs.length 0 _ (Int.le_refl _) (by omega) (by rw [ho.rep]; simp [hN2]) (by intro j hj; simp at hj) (by rw [ho.rep]; intro y hy; rw [(List.mem_replicate.1 hy).2]; exact ⟨_, _, _, _, _, _, _, rfl⟩)]); (try cbv))
theorem toWorkerS_loop (xs : List D) (n : Int) (hn : o.len xs = n) (hm : n ≤ 9223372036854775807) (hx : ∀ x ∈ xs, ∃ c0 c1 c2 c3 c4 c5 c6 c7 c8, x = .agg [c0, c1, c2, c3, c4, c5, c6, c7, c8] ∧ o.call 76 [.agg [.d c0, .d c1, .d c2, .d c3, .d c4, .d c5, .d c6, .d c7, .d c8]] [] = some ⟨.agg [.d c0, .d c1, .d c2, .d c3, .d c4, .d c5, .d c6, .d c7, .d c8], [], []⟩) : ∀ (m : Nat) (k : Int) (ys : List D), 0 ≤ k → k + m = n → ys.length = xs.length → (∀ j, j < k.toNat → ys[j]? = xs[j]?) → (∀ y ∈ ys, ∃ d0 d1 d2 d3 d4 d5 d6 d7 d8, y = .agg [d0, d1, d2, d3, d4, d5, d6, d7, d8]) → o.loop 5100 ⟨[.d (.lst xs), .undef, .undef, .arr (7, 0) (77, 9) none true, .d (.int .i64 k), .undef, .undef, .undef, .undef, .undef, .undef, .undef, .undef, .undef, .undef, .undef, .undef, .undef, .undef, .undef, .undef, .undef, .undef], [[], [], [], [], [], [], [], [some (.rows (77, 9) ys)], [], [], [], [], [], [], [], [], [], [], [], [], [], [], []]⟩ = some (.exit 0, ⟨[.undef, .undef, .undef, .arr (7, 0) (77, 9) none true, .undef, .undef, .undef, .undef, .undef, .undef, .undef, .undef, .undef, .undef, .undef, .undef, .undef, .undef, .undef, .undef, .undef, .undef, .undef], [[], [], [], [], [], [], [], [some (.rows (77, 9) xs)], [], [], [], [], [], [], [], [], [], [], [], [], [], [], []]⟩)
  | 0, k, ys, h0, h, hy, hp, hd => by
    have hk : k = n := by omega
    subst hk
    have hl : (xs.length : Int) = k := by rw [← hn, ho.len]
    have he : ys = xs := by
      apply List.ext_getElem?
      intro j
      by_cases hj : j < k.toNat
      · exact hp j hj
      · rw [List.getElem?_eq_none (by omega), List.getElem?_eq_none (by omega)]
    subst he
    have h2 := lt_no ho k
    refine ho.loopR ?_
    cbv
    repeat ((first | rw [hn] | rw [h2]); (try cbv))
  | m + 1, k, ys, h0, h, hy, hp, hd => by
    have hl : (xs.length : Int) = n := by rw [← hn, ho.len]
    have hk : k.toNat < xs.length := by omega
    obtain ⟨x, hxk⟩ : ∃ x, xs[k.toNat]? = some x := ⟨_, List.getElem?_eq_getElem hk⟩
    obtain ⟨y, hyk⟩ : ∃ y, ys[k.toNat]? = some y := ⟨_, List.getElem?_eq_getElem (by omega)⟩
    obtain ⟨c0, c1, c2, c3, c4, c5, c6, c7, c8, rfl, hc⟩ := hx x (List.mem_of_getElem? hxk)
    obtain ⟨d0, d1, d2, d3, d4, d5, d6, d7, d8, rfl⟩ := hd y (List.mem_of_getElem? hyk)
    have ih := toWorkerS_loop xs n hn hm hx m (k + 1) (o.set ys k (.agg [c0, c1, c2, c3, c4, c5, c6, c7, c8])) (by omega) (by omega) (by rw [ho.set]; simpa using hy) (by
      rw [ho.set]
      intro j hj
      by_cases hjk : k.toNat = j
      · subst hjk; rw [List.getElem?_set_self (by omega)]; exact hxk.symm
      · rw [List.getElem?_set_ne hjk]; exact hp j (by omega)) (by
      rw [ho.set]
      intro y hy
      rcases List.mem_or_eq_of_mem_set hy with hy | rfl
      · exact hd y hy
      · exact ⟨c0, c1, c2, c3, c4, c5, c6, c7, c8, rfl⟩)
    have h2 := lt_yes ho (show k < n by omega)
    have h3 : o.elt xs k = some (.agg [c0, c1, c2, c3, c4, c5, c6, c7, c8]) := elt_some ho xs k _ h0 hxk
    have h5 := elt_some ho ys k _ h0 hyk
    have h4 := inc ho h0 (show k < n by omega) hm
    refine ho.loopR ?_
    cbv
    repeat ((first | rw [hn] | rw [h2] | rw [h3] | rw [h5] | rw [hc] |  rw [h4] | exact ih); (try cbv))
theorem toWorkerS {n : Nat} (ih : ToAll o n) : ToWorkerS o (n + 1) := by
  intro xs h hs
  obtain ⟨ys, m, em, e_, w, v⟩ := fits_lst Try.underlying38 h; injection e_ with e_; injection e_ with e_; subst e_; injection em with em; subst em
  simp only [Sm, SmL_iff] at hs
  have hm : ((xs.length : Nat) : Int) ≤ 1048576 := by omega
  have hx : ∀ x ∈ xs, ∃ c0 c1 c2 c3 c4 c5 c6 c7 c8, x = .agg [c0, c1, c2, c3, c4, c5, c6, c7, c8] ∧ o.call 76 [.agg [.d c0, .d c1, .d c2, .d c3, .d c4, .d c5, .d c6, .d c7, .d c8]] [] = some ⟨.agg [.d c0, .d c1, .d c2, .d c3, .d c4, .d c5, .d c6, .d c7, .d c8], [], []⟩ := by
    intro x hx
    obtain ⟨f1, f2⟩ := v x hx
    rw [show aggT Try.prog 114 = true by unfold aggT; rw [Try.underlying114]] at f2
    cases n with
    | zero => simp [Fits] at f1
    | succ n =>
      obtain ⟨c0, c1, c2, c3, c4, c5, c6, c7, c8, e1, _⟩ := fits114 f1
      have q := (ih.2.2.2.2.2.2.2.2.2.1) _ f1 (Sm_cells (hs.2 x hx))
      rw [e1] at q
      exact ⟨c0, c1, c2, c3, c4, c5, c6, c7, c8, by rw [many_agg f2, e1], q⟩
  have hn : o.len xs = ((xs.length : Nat) : Int) := ho.len xs
  have h0 : (0 : Int) ≤ ((xs.length : Nat) : Int) := by omega
  have hN2 : (((xs.length : Nat) : Int)).toNat = xs.length := by omega
  generalize hN : ((xs.length : Nat) : Int) = N at hn hm h0 hN2
  have h2 : o.cmp .eql N N = true := by rw [ho.cmp]; simp [cmpI]
  have h3 : o.fitsN 128 N = true := by rw [ho.fitsN]; simp; omega
  refine ho.callR ?_
  cbv
  repeat ((first | rw [hn] | rw [h2] | rw [h3] | rw [toWorkerS_loop ho xs N hn (by omega) hx xs.length 0 _ (Int.le_refl _) (by omega) (by rw [ho.rep]; simp [hN2]) (by intro j hj; simp at hj) (by rw [ho.rep]; intro y hy; rw [(List.mem_replicate.1 hy).2]; exact ⟨_, _, _, _, _, _, _, _, _, rfl⟩)]); (try cbv))
theorem toKid_ev (ac0 ac1 ac2 ac3 ac4 ac5 ac6 : D)  (q2 : o.call 87 [.agg [.d ac2, .d ac3, .d ac4, .d ac5]] [] = some ⟨.agg [.d ac2, .d ac3, .d ac4, .d ac5], [], []⟩) : o.call 64 [.agg [.d ac0, .d ac1, .d ac2, .d ac3, .d ac4, .d ac5, .d ac6]] [] = some ⟨.agg [.d ac0, .d ac1, .d ac2, .d ac3, .d ac4, .d ac5, .d ac6], [], []⟩ := by
  refine ho.callR ?_
  cbv
  rw [q2]
  cbv
theorem toKid {n : Nat} (ih : ToAll o n) : ToKid o (n + 1) := by
  intro ds h hs
  obtain ⟨ac0, ac1, ac2, ac3, ac4, ac5, ac6, rfl, ah0, ah1, ah2, ah3⟩ := fits95 h
  simp only [SmL] at hs
  have q2 := (ih.2.2.2.2.2.2.2.2.2.2.1) _ ah2 (by simp only [SmL]; simp [hs])
  simp only [List.map] at q2
  exact toKid_ev ho ac0 ac1 ac2 ac3 ac4 ac5 ac6  q2
theorem toEntry_ev (ac0 ac1 ac2 ac3 ac4 ac5 ac6 : D)  (q2 : o.call 96 [.agg [.d ac2, .d ac3]] [] = some ⟨.agg [.d ac2, .d ac3], [], []⟩) (q4 : o.call 96 [.agg [.d ac5, .d ac6]] [] = some ⟨.agg [.d ac5, .d ac6], [], []⟩) : o.call 75 [.agg [.d ac0, .d ac1, .d ac2, .d ac3, .d ac4, .d ac5, .d ac6]] [] = some ⟨.agg [.d ac0, .d ac1, .d ac2, .d ac3, .d ac4, .d ac5, .d ac6], [], []⟩ := by
  refine ho.callR ?_
  cbv
  rw [q2]
  cbv
  rw [q4]
  cbv
theorem toEntry {n : Nat} (ih : ToAll o n) : ToEntry o (n + 1) := by
  intro ds h hs
  obtain ⟨ac0, ac1, ac2, ac3, ac4, ac5, ac6, rfl, ah0, ah1, ah2, ah3, ah4⟩ := fits111 h
  simp only [SmL] at hs
  have q2 := (ih.2.2.2.2.2.2.2.2.2.2.2.1) _ ah2 (by simp only [SmL]; simp [hs])
  simp only [List.map] at q2
  have q4 := (ih.2.2.2.2.2.2.2.2.2.2.2.1) _ ah4 (by simp only [SmL]; simp [hs])
  simp only [List.map] at q4
  exact toEntry_ev ho ac0 ac1 ac2 ac3 ac4 ac5 ac6  q2 q4
theorem toWorker_ev (ac0 ac1 ac2 ac3 ac4 ac5 ac6 ac7 ac8 : D) (x5 : List D) (q4 : o.call 87 [.agg [.d ac4, .d ac5, .d ac6, .d ac7]] [] = some ⟨.agg [.d ac4, .d ac5, .d ac6, .d ac7], [], []⟩) (q5 : o.call 97 [.d (.lst x5)] [] = some ⟨.d (.lst x5), [], []⟩) : o.call 76 [.agg [.d ac0, .d ac1, .d ac2, .d ac3, .d ac4, .d ac5, .d ac6, .d ac7, .d (.lst x5)]] [] = some ⟨.agg [.d ac0, .d ac1, .d ac2, .d ac3, .d ac4, .d ac5, .d ac6, .d ac7, .d (.lst x5)], [], []⟩ := by
  refine ho.callR ?_
  cbv
  rw [q4]
  cbv
  rw [q5]
  cbv
theorem toWorker {n : Nat} (ih : ToAll o n) : ToWorker o (n + 1) := by
  intro ds h hs
  obtain ⟨ac0, ac1, ac2, ac3, ac4, ac5, ac6, ac7, ac8, rfl, ah0, ah1, ah2, ah3, ah4, ah5⟩ := fits114 h
  simp only [SmL] at hs
  have q4 := (ih.2.2.2.2.2.2.2.2.2.2.1) _ ah4 (by simp only [SmL]; simp [hs])
  simp only [List.map] at q4
  have k5 := ah5; obtain ⟨x5, m5, em5, e_, w5, v5⟩ := fits_lst Try.underlying91 ah5; injection e_ with e_; subst e_
  have q5 := (ih.2.2.2.2.2.2.2.2.2.2.2.2.1) x5 k5 (by simp [hs])
  exact toWorker_ev ho ac0 ac1 ac2 ac3 ac4 ac5 ac6 ac7 (.lst []) x5 q4 q5
theorem toTerm_ev (ac0 ac1 ac2 ac3 : D) (x3 : List D) (q3 : o.call 97 [.d (.lst x3)] [] = some ⟨.d (.lst x3), [], []⟩) : o.call 87 [.agg [.d ac0, .d ac1, .d ac2, .d (.lst x3)]] [] = some ⟨.agg [.d ac0, .d ac1, .d ac2, .d (.lst x3)], [], []⟩ := by
  refine ho.callR ?_
  cbv
  rw [q3]
  cbv
theorem toTerm {n : Nat} (ih : ToAll o n) : ToTerm o (n + 1) := by
  intro ds h hs
  obtain ⟨ac0, ac1, ac2, ac3, rfl, ah0, ah1, ah2, ah3⟩ := fits93 h
  simp only [SmL] at hs
  have k3 := ah3; obtain ⟨x3, m3, em3, e_, w3, v3⟩ := fits_lst Try.underlying91 ah3; injection e_ with e_; subst e_
  have q3 := (ih.2.2.2.2.2.2.2.2.2.2.2.2.1) x3 k3 (by simp [hs])
  exact toTerm_ev ho ac0 ac1 ac2 (.lst []) x3 q3
theorem toCode_ev (ac0 ac1 : D) (x0 : List D) (x1 : List D) (q0 : o.call 110 [.d (.lst x0)] [] = some ⟨.d (.lst x0), [], []⟩) (q1 : o.call 111 [.d (.lst x1)] [] = some ⟨.d (.lst x1), [], []⟩) : o.call 96 [.agg [.d (.lst x0), .d (.lst x1)]] [] = some ⟨.agg [.d (.lst x0), .d (.lst x1)], [], []⟩ := by
  refine ho.callR ?_
  cbv
  rw [q0]
  cbv
  rw [q1]
  cbv
theorem toCode {n : Nat} (ih : ToAll o n) : ToCode o (n + 1) := by
  intro ds h hs
  obtain ⟨ac0, ac1, rfl, ah0, ah1⟩ := fits109 h
  simp only [SmL] at hs
  have k0 := ah0; obtain ⟨x0, m0, em0, e_, w0, v0⟩ := fits_lst Try.underlying106 ah0; injection e_ with e_; subst e_
  have q0 := (ih.2.2.2.2.2.2.2.2.2.2.2.2.2.1) x0 k0 (by simp [hs])
  have k1 := ah1; obtain ⟨x1, m1, em1, e_, w1, v1⟩ := fits_lst Try.underlying107 ah1; injection e_ with e_; subst e_
  have q1 := (ih.2.2.2.2.2.2.2.2.2.2.2.2.2.2.1) x1 k1 (by simp [hs])
  exact toCode_ev ho (.lst []) (.lst []) x0 x1 q0 q1
theorem toTermS_loop (xs : List D) (n : Int) (hn : o.len xs = n) (hm : n ≤ 9223372036854775807) (hx : ∀ x ∈ xs, ∃ c0 c1 c2 c3, x = .agg [c0, c1, c2, c3] ∧ o.call 87 [.agg [.d c0, .d c1, .d c2, .d c3]] [] = some ⟨.agg [.d c0, .d c1, .d c2, .d c3], [], []⟩) : ∀ (m : Nat) (k : Int) (ys : List D), 0 ≤ k → k + m = n → ys.length = xs.length → (∀ j, j < k.toNat → ys[j]? = xs[j]?) → (∀ y ∈ ys, ∃ d0 d1 d2 d3, y = .agg [d0, d1, d2, d3]) → o.loop 9700 ⟨[.d (.lst xs), .undef, .undef, .arr (7, 0) (75, 4) none true, .d (.int .i64 k), .undef, .undef, .undef, .undef, .undef, .undef, .undef, .undef, .undef, .undef, .undef, .undef, .undef, .undef, .undef, .undef, .undef, .undef], [[], [], [], [], [], [], [], [some (.rows (75, 4) ys)], [], [], [], [], [], [], [], [], [], [], [], [], [], [], []]⟩ = some (.exit 0, ⟨[.undef, .undef, .undef, .arr (7, 0) (75, 4) none true, .undef, .undef, .undef, .undef, .undef, .undef, .undef, .undef, .undef, .undef, .undef, .undef, .undef, .undef, .undef, .undef, .undef, .undef, .undef], [[], [], [], [], [], [], [], [some (.rows (75, 4) xs)], [], [], [], [], [], [], [], [], [], [], [], [], [], [], []]⟩)
  | 0, k, ys, h0, h, hy, hp, hd => by
    have hk : k = n := by omega
    subst hk
    have hl : (xs.length : Int) = k := by rw [← hn, ho.len]
    have he : ys = xs := by
      apply List.ext_getElem?
      intro j
      by_cases hj : j < k.toNat
      · exact hp j hj
      · rw [List.getElem?_eq_none (by omega), List.getElem?_eq_none (by omega)]
    subst he
    have h2 := lt_no ho k
    refine ho.loopR ?_
    cbv
    repeat ((first | rw [hn] | rw [h2]); (try cbv))
  | m + 1, k, ys, h0, h, hy, hp, hd => by
    have hl : (xs.length : Int) = n := by rw [← hn, ho.len]
    have hk : k.toNat < xs.length := by omega
    obtain ⟨x, hxk⟩ : ∃ x, xs[k.toNat]? = some x := ⟨_, List.getElem?_eq_getElem hk⟩
    obtain ⟨y, hyk⟩ : ∃ y, ys[k.toNat]? = some y := ⟨_, List.getElem?_eq_getElem (by omega)⟩
    obtain ⟨c0, c1, c2, c3, rfl, hc⟩ := hx x (List.mem_of_getElem? hxk)
    obtain ⟨d0, d1, d2, d3, rfl⟩ := hd y (List.mem_of_getElem? hyk)
    have ih := toTermS_loop xs n hn hm hx m (k + 1) (o.set ys k (.agg [c0, c1, c2, c3])) (by omega) (by omega) (by rw [ho.set]; simpa using hy) (by
      rw [ho.set]
      intro j hj
      by_cases hjk : k.toNat = j
      · subst hjk; rw [List.getElem?_set_self (by omega)]; exact hxk.symm
      · rw [List.getElem?_set_ne hjk]; exact hp j (by omega)) (by
      rw [ho.set]
      intro y hy
      rcases List.mem_or_eq_of_mem_set hy with hy | rfl
      · exact hd y hy
      · exact ⟨c0, c1, c2, c3, rfl⟩)
    have h2 := lt_yes ho (show k < n by omega)
    have h3 : o.elt xs k = some (.agg [c0, c1, c2, c3]) := elt_some ho xs k _ h0 hxk
    have h5 := elt_some ho ys k _ h0 hyk
    have h4 := inc ho h0 (show k < n by omega) hm
    refine ho.loopR ?_
    cbv
    repeat ((first | rw [hn] | rw [h2] | rw [h3] | rw [h5] | rw [hc] |  rw [h4] | exact ih); (try cbv))
theorem toTermS {n : Nat} (ih : ToAll o n) : ToTermS o (n + 1) := by
  intro xs h hs
  obtain ⟨ys, m, em, e_, w, v⟩ := fits_lst Try.underlying91 h; injection e_ with e_; injection e_ with e_; subst e_; injection em with em; subst em
  simp only [Sm, SmL_iff] at hs
  have hm : ((xs.length : Nat) : Int) ≤ 1048576 := by omega
  have hx : ∀ x ∈ xs, ∃ c0 c1 c2 c3, x = .agg [c0, c1, c2, c3] ∧ o.call 87 [.agg [.d c0, .d c1, .d c2, .d c3]] [] = some ⟨.agg [.d c0, .d c1, .d c2, .d c3], [], []⟩ := by
    intro x hx
    obtain ⟨f1, f2⟩ := v x hx
    rw [show aggT Try.prog 93 = true by unfold aggT; rw [Try.underlying93]] at f2
    cases n with
    | zero => simp [Fits] at f1
    | succ n =>
      obtain ⟨c0, c1, c2, c3, e1, _⟩ := fits93 f1
      have q := (ih.2.2.2.2.2.2.2.2.2.2.1) _ f1 (Sm_cells (hs.2 x hx))
      rw [e1] at q
      exact ⟨c0, c1, c2, c3, by rw [many_agg f2, e1], q⟩
  have hn : o.len xs = ((xs.length : Nat) : Int) := ho.len xs
  have h0 : (0 : Int) ≤ ((xs.length : Nat) : Int) := by omega
  have hN2 : (((xs.length : Nat) : Int)).toNat = xs.length := by omega
  generalize hN : ((xs.length : Nat) : Int) = N at hn hm h0 hN2
  have h2 : o.cmp .eql N N = true := by rw [ho.cmp]; simp [cmpI]
  have h3 : o.fitsN 56 N = true := by rw [ho.fitsN]; simp; omega
  refine ho.callR ?_
  cbv
  repeat ((first | rw [hn] | rw [h2] | rw [h3] | rw [toTermS_loop ho xs N hn (by omega) hx xs.length 0 _ (Int.le_refl _) (by omega) (by rw [ho.rep]; simp [hN2]) (by intro j hj; simp at hj) (by rw [ho.rep]; intro y hy; rw [(List.mem_replicate.1 hy).2]; exact ⟨_, _, _, _, rfl⟩)]); (try cbv))
theorem toFnS_loop (xs : List D) (n : Int) (hn : o.len xs = n) (hm : n ≤ 9223372036854775807) (hx : ∀ x ∈ xs, ∃ c0 c1 c2 c3, x = .agg [c0, c1, c2, c3] ∧ o.call 119 [.agg [.d c0, .d c1, .d c2, .d c3]] [] = some ⟨.agg [.d c0, .d c1, .d c2, .d c3], [], []⟩) : ∀ (m : Nat) (k : Int) (ys : List D), 0 ≤ k → k + m = n → ys.length = xs.length → (∀ j, j < k.toNat → ys[j]? = xs[j]?) → (∀ y ∈ ys, ∃ d0 d1 d2 d3, y = .agg [d0, d1, d2, d3]) → o.loop 11000 ⟨[.d (.lst xs), .undef, .undef, .arr (7, 0) (160, 4) none true, .d (.int .i64 k), .undef, .undef, .undef, .undef, .undef, .undef, .undef, .undef, .undef, .undef, .undef, .undef, .undef, .undef, .undef, .undef, .undef, .undef], [[], [], [], [], [], [], [], [some (.rows (160, 4) ys)], [], [], [], [], [], [], [], [], [], [], [], [], [], [], []]⟩ = some (.exit 0, ⟨[.undef, .undef, .undef, .arr (7, 0) (160, 4) none true, .undef, .undef, .undef, .undef, .undef, .undef, .undef, .undef, .undef, .undef, .undef, .undef, .undef, .undef, .undef, .undef, .undef, .undef, .undef], [[], [], [], [], [], [], [], [some (.rows (160, 4) xs)], [], [], [], [], [], [], [], [], [], [], [], [], [], [], []]⟩)
  | 0, k, ys, h0, h, hy, hp, hd => by
    have hk : k = n := by omega
    subst hk
    have hl : (xs.length : Int) = k := by rw [← hn, ho.len]
    have he : ys = xs := by
      apply List.ext_getElem?
      intro j
      by_cases hj : j < k.toNat
      · exact hp j hj
      · rw [List.getElem?_eq_none (by omega), List.getElem?_eq_none (by omega)]
    subst he
    have h2 := lt_no ho k
    refine ho.loopR ?_
    cbv
    repeat ((first | rw [hn] | rw [h2]); (try cbv))
  | m + 1, k, ys, h0, h, hy, hp, hd => by
    have hl : (xs.length : Int) = n := by rw [← hn, ho.len]
    have hk : k.toNat < xs.length := by omega
    obtain ⟨x, hxk⟩ : ∃ x, xs[k.toNat]? = some x := ⟨_, List.getElem?_eq_getElem hk⟩
    obtain ⟨y, hyk⟩ : ∃ y, ys[k.toNat]? = some y := ⟨_, List.getElem?_eq_getElem (by omega)⟩
    obtain ⟨c0, c1, c2, c3, rfl, hc⟩ := hx x (List.mem_of_getElem? hxk)
    obtain ⟨d0, d1, d2, d3, rfl⟩ := hd y (List.mem_of_getElem? hyk)
    have ih := toFnS_loop xs n hn hm hx m (k + 1) (o.set ys k (.agg [c0, c1, c2, c3])) (by omega) (by omega) (by rw [ho.set]; simpa using hy) (by
      rw [ho.set]
      intro j hj
      by_cases hjk : k.toNat = j
      · subst hjk; rw [List.getElem?_set_self (by omega)]; exact hxk.symm
      · rw [List.getElem?_set_ne hjk]; exact hp j (by omega)) (by
      rw [ho.set]
      intro y hy
      rcases List.mem_or_eq_of_mem_set hy with hy | rfl
      · exact hd y hy
      · exact ⟨c0, c1, c2, c3, rfl⟩)
    have h2 := lt_yes ho (show k < n by omega)
    have h3 : o.elt xs k = some (.agg [c0, c1, c2, c3]) := elt_some ho xs k _ h0 hxk
    have h5 := elt_some ho ys k _ h0 hyk
    have h4 := inc ho h0 (show k < n by omega) hm
    refine ho.loopR ?_
    cbv
    repeat ((first | rw [hn] | rw [h2] | rw [h3] | rw [h5] | rw [hc] |  rw [h4] | exact ih); (try cbv))
theorem toFnS {n : Nat} (ih : ToAll o n) : ToFnS o (n + 1) := by
  intro xs h hs
  obtain ⟨ys, m, em, e_, w, v⟩ := fits_lst Try.underlying106 h; injection e_ with e_; injection e_ with e_; subst e_; injection em with em; subst em
  simp only [Sm, SmL_iff] at hs
  have hm : ((xs.length : Nat) : Int) ≤ 1048576 := by omega
  have hx : ∀ x ∈ xs, ∃ c0 c1 c2 c3, x = .agg [c0, c1, c2, c3] ∧ o.call 119 [.agg [.d c0, .d c1, .d c2, .d c3]] [] = some ⟨.agg [.d c0, .d c1, .d c2, .d c3], [], []⟩ := by
    intro x hx
    obtain ⟨f1, f2⟩ := v x hx
    rw [show aggT Try.prog 154 = true by unfold aggT; rw [Try.underlying154]] at f2
    cases n with
    | zero => simp [Fits] at f1
    | succ n =>
      obtain ⟨c0, c1, c2, c3, e1, _⟩ := fits154 f1
      have q := (ih.2.2.2.2.2.2.2.2.2.2.2.2.2.2.2.1) _ f1 (Sm_cells (hs.2 x hx))
      rw [e1] at q
      exact ⟨c0, c1, c2, c3, by rw [many_agg f2, e1], q⟩
  have hn : o.len xs = ((xs.length : Nat) : Int) := ho.len xs
  have h0 : (0 : Int) ≤ ((xs.length : Nat) : Int) := by omega
  have hN2 : (((xs.length : Nat) : Int)).toNat = xs.length := by omega
  generalize hN : ((xs.length : Nat) : Int) = N at hn hm h0 hN2
  have h2 : o.cmp .eql N N = true := by rw [ho.cmp]; simp [cmpI]
  have h3 : o.fitsN 56 N = true := by rw [ho.fitsN]; simp; omega
  refine ho.callR ?_
  cbv
  repeat ((first | rw [hn] | rw [h2] | rw [h3] | rw [toFnS_loop ho xs N hn (by omega) hx xs.length 0 _ (Int.le_refl _) (by omega) (by rw [ho.rep]; simp [hN2]) (by intro j hj; simp at hj) (by rw [ho.rep]; intro y hy; rw [(List.mem_replicate.1 hy).2]; exact ⟨_, _, _, _, rfl⟩)]); (try cbv))
theorem toPatS_loop (xs : List D) (n : Int) (hn : o.len xs = n) (hm : n ≤ 9223372036854775807) (hx : ∀ x ∈ xs, ∃ c0 c1 c2 c3, x = .agg [c0, c1, c2, c3] ∧ o.call 120 [.agg [.d c0, .d c1, .d c2, .d c3]] [] = some ⟨.agg [.d c0, .d c1, .d c2, .d c3], [], []⟩) : ∀ (m : Nat) (k : Int) (ys : List D), 0 ≤ k → k + m = n → ys.length = xs.length → (∀ j, j < k.toNat → ys[j]? = xs[j]?) → (∀ y ∈ ys, ∃ d0 d1 d2 d3, y = .agg [d0, d1, d2, d3]) → o.loop 11100 ⟨[.d (.lst xs), .undef, .undef, .arr (7, 0) (163, 4) none true, .d (.int .i64 k), .undef, .undef, .undef, .undef, .undef, .undef, .undef, .undef, .undef, .undef, .undef, .undef, .undef, .undef, .undef, .undef, .undef, .undef], [[], [], [], [], [], [], [], [some (.rows (163, 4) ys)], [], [], [], [], [], [], [], [], [], [], [], [], [], [], []]⟩ = some (.exit 0, ⟨[.undef, .undef, .undef, .arr (7, 0) (163, 4) none true, .undef, .undef, .undef, .undef, .undef, .undef, .undef, .undef, .undef, .undef, .undef, .undef, .undef, .undef, .undef, .undef, .undef, .undef, .undef], [[], [], [], [], [], [], [], [some (.rows (163, 4) xs)], [], [], [], [], [], [], [], [], [], [], [], [], [], [], []]⟩)
  | 0, k, ys, h0, h, hy, hp, hd => by
    have hk : k = n := by omega
    subst hk
    have hl : (xs.length : Int) = k := by rw [← hn, ho.len]
    have he : ys = xs := by
      apply List.ext_getElem?
      intro j
      by_cases hj : j < k.toNat
      · exact hp j hj
      · rw [List.getElem?_eq_none (by omega), List.getElem?_eq_none (by omega)]
    subst he
    have h2 := lt_no ho k
    refine ho.loopR ?_
    cbv
    repeat ((first | rw [hn] | rw [h2]); (try cbv))
  | m + 1, k, ys, h0, h, hy, hp, hd => by
    have hl : (xs.length : Int) = n := by rw [← hn, ho.len]
    have hk : k.toNat < xs.length := by omega
    obtain ⟨x, hxk⟩ : ∃ x, xs[k.toNat]? = some x := ⟨_, List.getElem?_eq_getElem hk⟩
    obtain ⟨y, hyk⟩ : ∃ y, ys[k.toNat]? = some y := ⟨_, List.getElem?_eq_getElem (by omega)⟩
    obtain ⟨c0, c1, c2, c3, rfl, hc⟩ := hx x (List.mem_of_getElem? hxk)
    obtain ⟨d0, d1, d2, d3, rfl⟩ := hd y (List.mem_of_getElem? hyk)
    have ih := toPatS_loop xs n hn hm hx m (k + 1) (o.set ys k (.agg [c0, c1, c2, c3])) (by omega) (by omega) (by rw [ho.set]; simpa using hy) (by
      rw [ho.set]
      intro j hj
      by_cases hjk : k.toNat = j
      · subst hjk; rw [List.getElem?_set_self (by omega)]; exact hxk.symm
      · rw [List.getElem?_set_ne hjk]; exact hp j (by omega)) (by
      rw [ho.set]
      intro y hy
      rcases List.mem_or_eq_of_mem_set hy with hy | rfl
      · exact hd y hy
      · exact ⟨c0, c1, c2, c3, rfl⟩)
    have h2 := lt_yes ho (show k < n by omega)
    have h3 : o.elt xs k = some (.agg [c0, c1, c2, c3]) := elt_some ho xs k _ h0 hxk
    have h5 := elt_some ho ys k _ h0 hyk
    have h4 := inc ho h0 (show k < n by omega) hm
    refine ho.loopR ?_
    cbv
    repeat ((first | rw [hn] | rw [h2] | rw [h3] | rw [h5] | rw [hc] |  rw [h4] | exact ih); (try cbv))
theorem toPatS {n : Nat} (ih : ToAll o n) : ToPatS o (n + 1) := by
  intro xs h hs
  obtain ⟨ys, m, em, e_, w, v⟩ := fits_lst Try.underlying107 h; injection e_ with e_; injection e_ with e_; subst e_; injection em with em; subst em
  simp only [Sm, SmL_iff] at hs
  have hm : ((xs.length : Nat) : Int) ≤ 1048576 := by omega
  have hx : ∀ x ∈ xs, ∃ c0 c1 c2 c3, x = .agg [c0, c1, c2, c3] ∧ o.call 120 [.agg [.d c0, .d c1, .d c2, .d c3]] [] = some ⟨.agg [.d c0, .d c1, .d c2, .d c3], [], []⟩ := by
    intro x hx
    obtain ⟨f1, f2⟩ := v x hx
    rw [show aggT Try.prog 157 = true by unfold aggT; rw [Try.underlying157]] at f2
    cases n with
    | zero => simp [Fits] at f1
    | succ n =>
      obtain ⟨c0, c1, c2, c3, e1, _⟩ := fits157 f1
      have q := (ih.2.2.2.2.2.2.2.2.2.2.2.2.2.2.2.2.1) _ f1 (Sm_cells (hs.2 x hx))
      rw [e1] at q
      exact ⟨c0, c1, c2, c3, by rw [many_agg f2, e1], q⟩
  have hn : o.len xs = ((xs.length : Nat) : Int) := ho.len xs
  have h0 : (0 : Int) ≤ ((xs.length : Nat) : Int) := by omega
  have hN2 : (((xs.length : Nat) : Int)).toNat = xs.length := by omega
  generalize hN : ((xs.length : Nat) : Int) = N at hn hm h0 hN2
  have h2 : o.cmp .eql N N = true := by rw [ho.cmp]; simp [cmpI]
  have h3 : o.fitsN 56 N = true := by rw [ho.fitsN]; simp; omega
  refine ho.callR ?_
  cbv
  repeat ((first | rw [hn] | rw [h2] | rw [h3] | rw [toPatS_loop ho xs N hn (by omega) hx xs.length 0 _ (Int.le_refl _) (by omega) (by rw [ho.rep]; simp [hN2]) (by intro j hj; simp at hj) (by rw [ho.rep]; intro y hy; rw [(List.mem_replicate.1 hy).2]; exact ⟨_, _, _, _, rfl⟩)]); (try cbv))
theorem toFn_ev (ac0 ac1 ac2 ac3 : D) (x3 : List D) (q3 : o.call 124 [.d (.lst x3)] [] = some ⟨.d (.lst x3), [], []⟩) : o.call 119 [.agg [.d ac0, .d ac1, .d ac2, .d (.lst x3)]] [] = some ⟨.agg [.d ac0, .d ac1, .d ac2, .d (.lst x3)], [], []⟩ := by
  refine ho.callR ?_
  cbv
  rw [q3]
  cbv
theorem toFn {n : Nat} (ih : ToAll o n) : ToFn o (n + 1) := by
  intro ds h hs
  obtain ⟨ac0, ac1, ac2, ac3, rfl, ah0, ah1, ah2, ah3⟩ := fits154 h
  simp only [SmL] at hs
  have k3 := ah3; obtain ⟨x3, m3, em3, e_, w3, v3⟩ := fits_lst Try.underlying152 ah3; injection e_ with e_; subst e_
  have q3 := (ih.2.2.2.2.2.2.2.2.2.2.2.2.2.2.2.2.2.1) x3 k3 (by simp [hs])
  exact toFn_ev ho ac0 ac1 ac2 (.lst []) x3 q3
theorem toPat_ev (ac0 ac1 ac2 ac3 : D) (x3 : List D) (q3 : o.call 111 [.d (.lst x3)] [] = some ⟨.d (.lst x3), [], []⟩) : o.call 120 [.agg [.d ac0, .d ac1, .d ac2, .d (.lst x3)]] [] = some ⟨.agg [.d ac0, .d ac1, .d ac2, .d (.lst x3)], [], []⟩ := by
  refine ho.callR ?_
  cbv
  rw [q3]
  cbv
theorem toPat {n : Nat} (ih : ToAll o n) : ToPat o (n + 1) := by
  intro ds h hs
  obtain ⟨ac0, ac1, ac2, ac3, rfl, ah0, ah1, ah2, ah3⟩ := fits157 h
  simp only [SmL] at hs
  have k3 := ah3; obtain ⟨x3, m3, em3, e_, w3, v3⟩ := fits_lst Try.underlying107 ah3; injection e_ with e_; subst e_
  have q3 := (ih.2.2.2.2.2.2.2.2.2.2.2.2.2.2.1) x3 k3 (by simp [hs])
  exact toPat_ev ho ac0 ac1 ac2 (.lst []) x3 q3
theorem toInsS_loop (xs : List D) (n : Int) (hn : o.len xs = n) (hm : n ≤ 9223372036854775807) (hx : ∀ x ∈ xs, ∃ c0 c1 c2 c3, x = .agg [c0, c1, c2, c3] ∧ o.call 127 [.agg [.d c0, .d c1, .d c2, .d c3]] [] = some ⟨.agg [.d c0, .d c1, .d c2, .d c3], [], []⟩) : ∀ (m : Nat) (k : Int) (ys : List D), 0 ≤ k → k + m = n → ys.length = xs.length → (∀ j, j < k.toNat → ys[j]? = xs[j]?) → (∀ y ∈ ys, ∃ d0 d1 d2 d3, y = .agg [d0, d1, d2, d3]) → o.loop 12400 ⟨[.d (.lst xs), .undef, .undef, .arr (7, 0) (173, 4) none true, .d (.int .i64 k), .undef, .undef, .undef, .undef, .undef, .undef, .undef, .undef, .undef, .undef, .undef, .undef, .undef, .undef, .undef, .undef, .undef, .undef], [[], [], [], [], [], [], [], [some (.rows (173, 4) ys)], [], [], [], [], [], [], [], [], [], [], [], [], [], [], []]⟩ = some (.exit 0, ⟨[.undef, .undef, .undef, .arr (7, 0) (173, 4) none true, .undef, .undef, .undef, .undef, .undef, .undef, .undef, .undef, .undef, .undef, .undef, .undef, .undef, .undef, .undef, .undef, .undef, .undef, .undef], [[], [], [], [], [], [], [], [some (.rows (173, 4) xs)], [], [], [], [], [], [], [], [], [], [], [], [], [], [], []]⟩)
  | 0, k, ys, h0, h, hy, hp, hd => by
    have hk : k = n := by omega
    subst hk
    have hl : (xs.length : Int) = k := by rw [← hn, ho.len]
    have he : ys = xs := by
      apply List.ext_getElem?
      intro j
      by_cases hj : j < k.toNat
      · exact hp j hj
      · rw [List.getElem?_eq_none (by omega), List.getElem?_eq_none (by omega)]
    subst he
    have h2 := lt_no ho k
    refine ho.loopR ?_
    cbv
    repeat ((first | rw [hn] | rw [h2]); (try cbv))
  | m + 1, k, ys, h0, h, hy, hp, hd => by
    have hl : (xs.length : Int) = n := by rw [← hn, ho.len]
    have hk : k.toNat < xs.length := by omega
    obtain ⟨x, hxk⟩ : ∃ x, xs[k.toNat]? = some x := ⟨_, List.getElem?_eq_getElem hk⟩
    obtain ⟨y, hyk⟩ : ∃ y, ys[k.toNat]? = some y := ⟨_, List.getElem?_eq_getElem (by omega)⟩
    obtain ⟨c0, c1, c2, c3, rfl, hc⟩ := hx x (List.mem_of_getElem? hxk)
    obtain ⟨d0, d1, d2, d3, rfl⟩ := hd y (List.mem_of_getElem? hyk)
    have ih := toInsS_loop xs n hn hm hx m (k + 1) (o.set ys k (.agg [c0, c1, c2, c3])) (by omega) (by omega) (by rw [ho.set]; simpa using hy) (by
      rw [ho.set]
      intro j hj
      by_cases hjk : k.toNat = j
      · subst hjk; rw [List.getElem?_set_self (by omega)]; exact hxk.symm
      · rw [List.getElem?_set_ne hjk]; exact hp j (by omega)) (by
      rw [ho.set]
      intro y hy
      rcases List.mem_or_eq_of_mem_set hy with hy | rfl
      · exact hd y hy
      · exact ⟨c0, c1, c2, c3, rfl⟩)
    have h2 := lt_yes ho (show k < n by omega)
    have h3 : o.elt xs k = some (.agg [c0, c1, c2, c3]) := elt_some ho xs k _ h0 hxk
    have h5 := elt_some ho ys k _ h0 hyk
    have h4 := inc ho h0 (show k < n by omega) hm
    refine ho.loopR ?_
    cbv
    repeat ((first | rw [hn] | rw [h2] | rw [h3] | rw [h5] | rw [hc] |  rw [h4] | exact ih); (try cbv))
theorem toInsS {n : Nat} (ih : ToAll o n) : ToInsS o (n + 1) := by
  intro xs h hs
  obtain ⟨ys, m, em, e_, w, v⟩ := fits_lst Try.underlying152 h; injection e_ with e_; injection e_ with e_; subst e_; injection em with em; subst em
  simp only [Sm, SmL_iff] at hs
  have hm : ((xs.length : Nat) : Int) ≤ 1048576 := by omega
  have hx : ∀ x ∈ xs, ∃ c0 c1 c2 c3, x = .agg [c0, c1, c2, c3] ∧ o.call 127 [.agg [.d c0, .d c1, .d c2, .d c3]] [] = some ⟨.agg [.d c0, .d c1, .d c2, .d c3], [], []⟩ := by
    intro x hx
    obtain ⟨f1, f2⟩ := v x hx
    rw [show aggT Try.prog 172 = true by unfold aggT; rw [Try.underlying172]] at f2
    cases n with
    | zero => simp [Fits] at f1
    | succ n =>
      obtain ⟨c0, c1, c2, c3, e1, _⟩ := fits172 f1
      have q := (ih.2.2.2.2.2.2.2.2.2.2.2.2.2.2.2.2.2.2) _ f1 (Sm_cells (hs.2 x hx))
      rw [e1] at q
      exact ⟨c0, c1, c2, c3, by rw [many_agg f2, e1], q⟩
  have hn : o.len xs = ((xs.length : Nat) : Int) := ho.len xs
  have h0 : (0 : Int) ≤ ((xs.length : Nat) : Int) := by omega
  have hN2 : (((xs.length : Nat) : Int)).toNat = xs.length := by omega
  generalize hN : ((xs.length : Nat) : Int) = N at hn hm h0 hN2
  have h2 : o.cmp .eql N N = true := by rw [ho.cmp]; simp [cmpI]
  have h3 : o.fitsN 40 N = true := by rw [ho.fitsN]; simp; omega
  refine ho.callR ?_
  cbv
  repeat ((first | rw [hn] | rw [h2] | rw [h3] | rw [toInsS_loop ho xs N hn (by omega) hx xs.length 0 _ (Int.le_refl _) (by omega) (by rw [ho.rep]; simp [hN2]) (by intro j hj; simp at hj) (by rw [ho.rep]; intro y hy; rw [(List.mem_replicate.1 hy).2]; exact ⟨_, _, _, _, rfl⟩)]); (try cbv))
theorem toIns_ev (ac0 ac1 ac2 ac3 : D)   : o.call 127 [.agg [.d ac0, .d ac1, .d ac2, .d ac3]] [] = some ⟨.agg [.d ac0, .d ac1, .d ac2, .d ac3], [], []⟩ := by
  refine ho.callR ?_
  cbv
theorem toIns {n : Nat} (ih : ToAll o n) : ToIns o (n + 1) := by
  intro ds h hs
  obtain ⟨ac0, ac1, ac2, ac3, rfl, ah0, ah1, ah2, ah3⟩ := fits172 h
  simp only [SmL] at hs
  exact toIns_ev ho ac0 ac1 ac2 ac3  
theorem toAll : ∀ n, ToAll o n
  | 0 => by
    unfold ToAll
    refine ⟨?_, ?_, ?_, ?_, ?_, ?_, ?_, ?_, ?_, ?_, ?_, ?_, ?_, ?_, ?_, ?_, ?_, ?_, ?_⟩ <;> (intro x h; simp [Fits] at h)
  | n + 1 => have ih := toAll n; ⟨toOver ho ih, toHouse ho ih, toKidS ho ih, toIntS ho ih, toEntryS ho ih, toOverS ho ih, toWorkerS ho ih, toKid ho ih, toEntry ho ih, toWorker ho ih, toTerm ho ih, toCode ho ih, toTermS ho ih, toFnS ho ih, toPatS ho ih, toFn ho ih, toPat ho ih, toInsS ho ih, toIns ho ih⟩
end T1
