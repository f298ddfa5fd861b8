import Derived.Test.YtdkaahhcejipjaaOD2
import Derived.Test.YtdkaahhcejipjaaProg
import Derived.KernelRfl
set_option linter.unusedVariables false
set_option linter.unusedSimpArgs false
set_option linter.unnecessarySimpa false
set_option linter.unusedSectionVars false
open Go Go.Vi Go.Proofs
namespace T1
set_option maxRecDepth 100000
set_option maxHeartbeats 4000000
set_option linter.constructorNameAsVariable false
set_option linter.unusedVariables false
variable {o : Ora} (ho : IsDen vfun vloop o)
theorem own_scalar {P : Program} {n : Nat} {t : TypeId} {ds : List D} (hs : (match P.underlying t with | some .bool => true | some (.int _) => true | some .string => true | _ => false) = true) (h : Fits P n t ds) : Own P n t ds := by
  cases n with
  | zero => simp [Fits] at h
  | succ n =>
    unfold Fits at h
    unfold Own
    split at h <;> first
      | (rename_i hu; rw [hu] at hs; first | (cases hs; done) | (rw [hu]; exact h))
      | exact h.elim
theorem froze_scalar {P : Program} {n : Nat} {t : TypeId} {c : D} (hs : (match P.underlying t with | some .bool => true | some (.int _) => true | some .string => true | _ => false) = true) (h : Fits P n t [c]) : frozeD c = c := by
  cases n with
  | zero => simp [Fits] at h
  | succ n =>
    unfold Fits at h
    split at h <;> first
      | (rename_i hu; rw [hu] at hs; cases hs; done)
      | (obtain ⟨x, e⟩ := h; injection e with e; subst e; simp [frozeD]; done)
      | (obtain ⟨x, e, _⟩ := h; injection e with e; subst e; simp [frozeD]; done)
      | exact h.elim
theorem own_rows {P : Program} {n : Nat} {t e : TypeId} {w : Nat} {xs : List D} (hu : P.underlying t = some (.slice e)) (hw : P.cellsOf e = w) (hs : (match P.underlying e with | some .bool => true | some (.int _) => true | some .string => true | _ => false) = true) (h : Fits P n t [.lst xs]) : Own P n t [.own (e, w) xs] := by
  obtain ⟨ys, m, rfl, e1, e2, e3⟩ := fits_lst hu h
  injection e1 with e1
  injection e1 with e1
  subst e1
  exact mk_own_lst hu hw e2 fun x hx => ⟨own_scalar hs (e3 x hx).1, (e3 x hx).2⟩
def ToOver (o : Ora) (n : Nat) : Prop := ∀ ds, Fits Try.prog n 25 ds → SmL 1048576 ds → ∃ (c0 : Int) (c1 : Int) (c2 : Int) (x3 : List D) (y3 : List D) (y4 : List D) (y5 : List D) (c6 : Bool), ds = [.int .i64 c0, .int .i64 c1, .int .i64 c2, .lst x3, .lst y4, .lst y5, .bool c6] ∧ o.call 11 [.agg (ds.map .d)] [] = some ⟨.agg [.d (.int .i64 c0), .d (.int .i64 c1), .d (.int .i64 c2), .arr (0, 0) (97, 7) none true, .arr (0, 1) (3, 1) none true, .arr (0, 2) (3, 1) none true, .d (.bool c6)], [], [some (.orows (97, 7) y3), some (.rows (3, 1) y4), some (.rows (3, 1) y5)]⟩ ∧ Own Try.prog n 29 [.int .i64 c0, .int .i64 c1, .int .i64 c2, .own (97, 7) y3, .own (3, 1) y4, .own (3, 1) y5, .bool c6] ∧ frozeL y3 = x3
def ToKidS (o : Ora) (n : Nat) : Prop := ∀ xs, Fits Try.prog n 22 [.lst xs] → Sm 1048576 (.lst xs) → ∃ ys, o.call 35 [.d (.lst xs)] [] = some ⟨.arr (0, 0) (97, 7) none true, [], [some (.orows (97, 7) ys)]⟩ ∧ frozeL ys = xs ∧ Own Try.prog n 27 [.own (97, 7) ys]
def ToIntS (o : Ora) (n : Nat) : Prop := ∀ xs, Fits Try.prog n 23 [.lst xs] → Sm 1048576 (.lst xs) → o.call 36 [.d (.lst xs)] [] = some ⟨.arr (0, 0) (3, 1) none true, [], [some (.rows (3, 1) xs)]⟩
def ToKid (o : Ora) (n : Nat) : Prop := ∀ ds, Fits Try.prog n 95 ds → SmL 1048576 ds → ∃ (c0 : ByteArray) (c1 : ByteArray) (c2 : Int) (c3 : Int) (c4 : ByteArray) (x5 : List D) (y5 : List D) (c6 : Int), ds = [.str c0, .str c1, .int .i64 c2, .int .i64 c3, .str c4, .lst x5, .int .i64 c6] ∧ o.call 64 [.agg (ds.map .d)] [] = some ⟨.agg [.d (.str c0), .d (.str c1), .d (.int .i64 c2), .d (.int .i64 c3), .d (.str c4), .arr (0, 0) (75, 4) none true, .d (.int .i64 c6)], [], [some (.orows (75, 4) y5)]⟩ ∧ Own Try.prog n 97 [.str c0, .str c1, .int .i64 c2, .int .i64 c3, .str c4, .own (75, 4) y5, .int .i64 c6] ∧ frozeL y5 = x5
def ToTerm (o : Ora) (n : Nat) : Prop := ∀ ds, Fits Try.prog n 93 ds → SmL 1048576 ds → ∃ (c0 : Int) (c1 : Int) (c2 : ByteArray) (x3 : List D) (y3 : List D), ds = [.int .i64 c0, .int .i64 c1, .str c2, .lst x3] ∧ o.call 87 [.agg (ds.map .d)] [] = some ⟨.agg [.d (.int .i64 c0), .d (.int .i64 c1), .d (.str c2), .arr (0, 0) (75, 4) none true], [], [some (.orows (75, 4) y3)]⟩ ∧ Own Try.prog n 75 [.int .i64 c0, .int .i64 c1, .str c2, .own (75, 4) y3] ∧ frozeL y3 = x3
def ToTermS (o : Ora) (n : Nat) : Prop := ∀ xs, Fits Try.prog n 91 [.lst xs] → Sm 1048576 (.lst xs) → ∃ ys, o.call 97 [.d (.lst xs)] [] = some ⟨.arr (0, 0) (75, 4) none true, [], [some (.orows (75, 4) ys)]⟩ ∧ frozeL ys = xs ∧ Own Try.prog n 73 [.own (75, 4) ys]
def ToAll (o : Ora) (n : Nat) : Prop := ToOver o n ∧ ToKidS o n ∧ ToIntS o n ∧ ToKid o n ∧ ToTerm o n ∧ ToTermS o n
include ho
theorem toOver_ev (c0 : Int) (c1 : Int) (c2 : Int) (x3 : List D) (y3 : List D) (y4 : List D) (y5 : List D) (c6 : Bool) (q3 : o.call 35 [.d (.lst x3)] [] = some ⟨.arr (0, 0) (97, 7) none true, [], [some (.orows (97, 7) y3)]⟩) (q4 : o.call 36 [.d (.lst y4)] [] = some ⟨.arr (0, 0) (3, 1) none true, [], [some (.rows (3, 1) y4)]⟩) (q5 : o.call 36 [.d (.lst y5)] [] = some ⟨.arr (0, 0) (3, 1) none true, [], [some (.rows (3, 1) y5)]⟩) : o.call 11 [.agg [.d (.int .i64 c0), .d (.int .i64 c1), .d (.int .i64 c2), .d (.lst x3), .d (.lst y4), .d (.lst y5), .d (.bool c6)]] [] = some ⟨.agg [.d (.int .i64 c0), .d (.int .i64 c1), .d (.int .i64 c2), .arr (0, 0) (97, 7) none true, .arr (0, 1) (3, 1) none true, .arr (0, 2) (3, 1) none true, .d (.bool c6)], [], [some (.orows (97, 7) y3), some (.rows (3, 1) y4), some (.rows (3, 1) y5)]⟩ := by
  refine ho.callR ?_
  cbv
  rw [q3]
  cbv
  rw [q4]
  cbv
  rw [q5]
  cbv
theorem toOver {n : Nat} (ih : ToAll o n) : ToOver o (n + 1) := by
  intro ds h hs
  obtain ⟨ac0, ac1, ac2, ac3, ac4, ac5, ac6, rfl, ah0, ah1, ah2, ah3, ah4, ah5, ah6⟩ := fits25 h
  simp only [SmL] at hs
  have k0 := ah0
  obtain ⟨x0, e_, w0⟩ := fits_int Try.underlying3 ah0; injection e_ with e_; subst e_
  have k1 := ah1
  obtain ⟨x1, e_, w1⟩ := fits_int Try.underlying3 ah1; injection e_ with e_; subst e_
  have k2 := ah2
  obtain ⟨x2, e_, w2⟩ := fits_int Try.underlying3 ah2; injection e_ with e_; subst e_
  have k3 := ah3; obtain ⟨x3, m3, em3, e_, w3, v3⟩ := fits_lst Try.underlying22 ah3; injection e_ with e_; subst e_
  obtain ⟨y3, q3, f3, g3⟩ := (ih.2.1) x3 k3 (by simp [hs])
  have k4 := ah4; obtain ⟨x4, m4, em4, e_, w4, v4⟩ := fits_lst Try.underlying23 ah4; injection e_ with e_; subst e_
  have q4 := (ih.2.2.1) x4 k4 (by simp [hs])
  have k5 := ah5; obtain ⟨x5, m5, em5, e_, w5, v5⟩ := fits_lst Try.underlying23 ah5; injection e_ with e_; subst e_
  have q5 := (ih.2.2.1) x5 k5 (by simp [hs])
  have k6 := ah6
  obtain ⟨x6, e_⟩ := fits_bool Try.underlying4 ah6; injection e_ with e_; subst e_
  exact ⟨x0, x1, x2, x3, y3, x4, x5, x6, rfl, toOver_ev ho x0 x1 x2 x3 y3 x4 x5 x6 q3 q4 q5, mkown29 ⟨(own_scalar (by rw [Try.underlying3]) k0), (own_scalar (by rw [Try.underlying3]) k1), (own_scalar (by rw [Try.underlying3]) k2), g3, (own_rows Try.underlying23 co3 (by rw [Try.underlying3]) k4), (own_rows Try.underlying23 co3 (by rw [Try.underlying3]) k5), (own_scalar (by rw [Try.underlying4]) k6)⟩, f3⟩
theorem toKidS_loop (nn : Nat) (xs : List D) (n : Int) (hn : o.len xs = n) (hm : n ≤ 9223372036854775807) (hx : ∀ x ∈ xs, ∃ (c0 : ByteArray) (c1 : ByteArray) (c2 : Int) (c3 : Int) (c4 : ByteArray) (x5 : List D) (y5 : List D) (c6 : Int), x = .agg [.str c0, .str c1, .int .i64 c2, .int .i64 c3, .str c4, .lst x5, .int .i64 c6] ∧ o.call 64 [.agg [.d (.str c0), .d (.str c1), .d (.int .i64 c2), .d (.int .i64 c3), .d (.str c4), .d (.lst x5), .d (.int .i64 c6)]] [] = some ⟨.agg [.d (.str c0), .d (.str c1), .d (.int .i64 c2), .d (.int .i64 c3), .d (.str c4), .arr (0, 0) (75, 4) none true, .d (.int .i64 c6)], [], [some (.orows (75, 4) y5)]⟩ ∧ Own Try.prog nn 97 [.str c0, .str c1, .int .i64 c2, .int .i64 c3, .str c4, .own (75, 4) y5, .int .i64 c6] ∧ frozeL y5 = x5) : ∀ (m : Nat) (k : Int) (ys : List D), 0 ≤ k → k + m = n → ys.length = xs.length → (∀ y ∈ ys, ∃ d0 d1 d2 d3 d4 d5 d6, y = .agg [d0, d1, d2, d3, d4, d5, d6]) →
    ∃ zs, o.loop 3500 ⟨[.d (.lst xs), .undef, .undef, .arr (7, 0) (97, 7) none true, .d (.int .i64 k), .undef, .undef, .undef, .undef, .undef, .undef, .undef, .undef, .undef, .undef, .undef, .undef, .undef, .undef, .undef, .undef, .undef, .undef], [[], [], [], [], [], [], [], [some (.orows (97, 7) ys)], [], [], [], [], [], [], [], [], [], [], [], [], [], [], []]⟩ = some (.exit 0, ⟨[.undef, .undef, .undef, .arr (7, 0) (97, 7) none true, .undef, .undef, .undef, .undef, .undef, .undef, .undef, .undef, .undef, .undef, .undef, .undef, .undef, .undef, .undef, .undef, .undef, .undef, .undef], [[], [], [], [], [], [], [], [some (.orows (97, 7) zs)], [], [], [], [], [], [], [], [], [], [], [], [], [], [], []]⟩) ∧ zs.length = xs.length ∧ (∀ j, j < k.toNat → zs[j]? = ys[j]?) ∧ ∀ j, k.toNat ≤ j → ∀ x z, xs[j]? = some x → zs[j]? = some z → frozeD z = x ∧ Own Try.prog nn 97 z.cells ∧ z.many = true
  | 0, k, ys, h0, h, hy, hd => by
    have hk : k = n := by omega
    subst hk
    have hl : (xs.length : Int) = k := by rw [← hn, ho.len]
    have h2 := lt_no ho k
    refine ⟨ys, ho.loopR ?_, hy, fun _ _ => rfl, fun j hj x z hx _ => ?_⟩
    · clear hx hl hd
      cbv
      repeat ((first | rw [hn] | rw [h2]); (try cbv))
    · have := (List.getElem?_eq_some_iff.1 hx).1; omega
  | m + 1, k, ys, h0, h, hy, hd => by
    have hl : (xs.length : Int) = n := by rw [← hn, ho.len]
    have hk : k.toNat < xs.length := by omega
    obtain ⟨x, hxk⟩ : ∃ x, xs[k.toNat]? = some x := ⟨_, List.getElem?_eq_getElem hk⟩
    obtain ⟨y, hyk⟩ : ∃ y, ys[k.toNat]? = some y := ⟨_, List.getElem?_eq_getElem (by omega)⟩
    obtain ⟨c0, c1, c2, c3, c4, x5, y5, c6, rfl, hc, hown, hfz⟩ := hx x (List.mem_of_getElem? hxk)
    obtain ⟨d0, d1, d2, d3, d4, d5, d6, rfl⟩ := hd y (List.mem_of_getElem? hyk)
    obtain ⟨zs, i1, i2, i3, i4⟩ := toKidS_loop nn xs n hn hm hx m (k + 1) (o.set ys k (.agg [.str c0, .str c1, .int .i64 c2, .int .i64 c3, .str c4, .own (75, 4) y5, .int .i64 c6])) (by omega) (by omega) (by rw [ho.set]; simpa using hy) (by
      rw [ho.set]
      intro y hy
      rcases List.mem_or_eq_of_mem_set hy with hy | rfl
      · exact hd y hy
      · exact ⟨_, _, _, _, _, _, _, rfl⟩)
    have h2 := lt_yes ho (show k < n by omega)
    have h3 : o.elt xs k = some (.agg [.str c0, .str c1, .int .i64 c2, .int .i64 c3, .str c4, .lst x5, .int .i64 c6]) := elt_some ho xs k _ h0 hxk
    have h5 := elt_some ho ys k _ h0 hyk
    have h4 := inc ho h0 (show k < n by omega) hm
    refine ⟨zs, ho.loopR ?_, i2, fun j hj => ?_, fun j hj x z hxj hzj => ?_⟩
    · clear hx hl hd i4 hown hfz
      cbv
      repeat ((first | rw [hn] | rw [h2] | rw [h3] | rw [hc] | rw [h5] | rw [h4] | exact i1); (try cbv))
    · rw [i3 j (by omega), ho.set, List.getElem?_set_ne (by omega)]
    · by_cases hjk : j = k.toNat
      · subst hjk
        rw [hxk] at hxj
        injection hxj with hxj
        subst hxj
        rw [i3 _ (by omega), ho.set, List.getElem?_set_self (by omega)] at hzj
        injection hzj with hzj
        subst hzj
        exact ⟨by simp only [frozeD, frozeL, hfz], hown, rfl⟩
      · exact i4 j (by omega) x z hxj hzj
theorem toKidS {n : Nat} (ih : ToAll o n) : ToKidS o (n + 1) := by
  intro xs h hs
  obtain ⟨ys, m, em, e_, w, v⟩ := fits_lst Try.underlying22 h; injection e_ with e_; injection e_ with e_; subst e_; injection em with em; subst em
  simp only [Sm, SmL_iff] at hs
  have hm : ((xs.length : Nat) : Int) ≤ 1048576 := by omega
  have hx : ∀ x ∈ xs, ∃ (c0 : ByteArray) (c1 : ByteArray) (c2 : Int) (c3 : Int) (c4 : ByteArray) (x5 : List D) (y5 : List D) (c6 : Int), x = .agg [.str c0, .str c1, .int .i64 c2, .int .i64 c3, .str c4, .lst x5, .int .i64 c6] ∧ o.call 64 [.agg [.d (.str c0), .d (.str c1), .d (.int .i64 c2), .d (.int .i64 c3), .d (.str c4), .d (.lst x5), .d (.int .i64 c6)]] [] = some ⟨.agg [.d (.str c0), .d (.str c1), .d (.int .i64 c2), .d (.int .i64 c3), .d (.str c4), .arr (0, 0) (75, 4) none true, .d (.int .i64 c6)], [], [some (.orows (75, 4) y5)]⟩ ∧ Own Try.prog n 97 [.str c0, .str c1, .int .i64 c2, .int .i64 c3, .str c4, .own (75, 4) y5, .int .i64 c6] ∧ frozeL y5 = x5 := by
    intro x hx
    obtain ⟨f1, f2⟩ := v x hx
    rw [show aggT Try.prog 95 = true by unfold aggT; rw [Try.underlying95]] at f2
    obtain ⟨c0, c1, c2, c3, c4, x5, y5, c6, e1, q, g, z⟩ := (ih.2.2.2.1) _ f1 (Sm_cells (hs.2 x hx))
    rw [e1] at q
    exact ⟨c0, c1, c2, c3, c4, x5, y5, c6, by rw [many_agg f2, e1], q, g, z⟩
  have hn : o.len xs = ((xs.length : Nat) : Int) := ho.len xs
  have h0 : (0 : Int) ≤ ((xs.length : Nat) : Int) := by omega
  have hN2 : (((xs.length : Nat) : Int)).toNat = xs.length := by omega
  generalize hN : ((xs.length : Nat) : Int) = N at hn hm h0 hN2
  obtain ⟨zs, i1, i2, i3, i4⟩ := toKidS_loop ho n xs N hn (by omega) hx xs.length 0 (o.rep N (.agg [(.str ⟨#[]⟩), (.str ⟨#[]⟩), (.int .i64 0), (.int .i64 0), (.str ⟨#[]⟩), .lst [], (.int .i64 0)])) (Int.le_refl _) (by omega) (by rw [ho.rep]; simp [hN2]) (by rw [ho.rep]; intro y hy; rw [(List.mem_replicate.1 hy).2]; exact ⟨_, _, _, _, _, _, _, rfl⟩)
  have h2 : o.cmp .eql N N = true := by rw [ho.cmp]; simp [cmpI]
  have h3 : o.fitsN 96 N = true := by rw [ho.fitsN]; simp; omega
  have h4 : o.flat (o.rep N (.agg [(.str ⟨#[]⟩), (.str ⟨#[]⟩), (.int .i64 0), (.int .i64 0), (.str ⟨#[]⟩), .lst [], (.int .i64 0)])) = true := by rw [ho.flat, ho.rep]; simp [List.all_eq_true, plainC]
  refine ⟨zs, ho.callR ?_, ?_, ?_⟩
  · clear hx hs i3 i4 v
    cbv
    repeat ((first | rw [hn] | rw [h2] | rw [h3] | rw [h4] | rw [i1]); (try cbv))
  · rw [frozeL_map]
    apply List.ext_getElem?
    intro j
    rw [List.getElem?_map]
    cases hj : xs[j]? with
    | none => rw [List.getElem?_eq_none (by rw [i2]; exact List.getElem?_eq_none_iff.1 hj)]; rfl
    | some x =>
      obtain ⟨z, hz⟩ : ∃ z, zs[j]? = some z := ⟨_, List.getElem?_eq_getElem (by rw [i2]; exact (List.getElem?_eq_some_iff.1 hj).1)⟩
      rw [hz, Option.map_some, (i4 j (by simp) x z hj hz).1]
  · refine mk_own_lst Try.underlying27 co97 (by rw [i2]; exact w) fun z hz => ?_
    obtain ⟨j, hj⟩ := List.getElem?_of_mem hz
    obtain ⟨x, hxj⟩ : ∃ x, xs[j]? = some x := ⟨_, List.getElem?_eq_getElem (by rw [← i2]; exact (List.getElem?_eq_some_iff.1 hj).1)⟩
    obtain ⟨_, r2, r3⟩ := i4 j (by simp) x z hxj hj
    exact ⟨r2, by rw [r3]; unfold aggT; rw [Try.underlying97]⟩
theorem toIntS_loop (xs : List D) (n : Int) (hn : o.len xs = n) (hm : n ≤ 9223372036854775807) (hx : ∀ x ∈ xs, ∃ i, x = .int .i64 i) : ∀ (m : Nat) (k : Int) (ys : List D), 0 ≤ k → k + m = n → ys.length = xs.length → (∀ j, j < k.toNat → ys[j]? = xs[j]?) → (∀ y ∈ ys, ∃ i, y = .int .i64 i) → o.loop 3600 ⟨[.d (.lst xs), .undef, .undef, .arr (7, 0) (3, 1) none true, .d (.int .i64 k), .undef, .undef, .undef, .undef, .undef, .undef, .undef, .undef, .undef, .undef, .undef, .undef, .undef, .undef, .undef, .undef, .undef], [[], [], [], [], [], [], [], [some (.rows (3, 1) ys)], [], [], [], [], [], [], [], [], [], [], [], [], [], []]⟩ = some (.exit 0, ⟨[.undef, .undef, .undef, .arr (7, 0) (3, 1) none true, .undef, .undef, .undef, .undef, .undef, .undef, .undef, .undef, .undef, .undef, .undef, .undef, .undef, .undef, .undef, .undef, .undef, .undef], [[], [], [], [], [], [], [], [some (.rows (3, 1) xs)], [], [], [], [], [], [], [], [], [], [], [], [], [], []]⟩)
  | 0, k, ys, h0, h, hy, hp, hd => by
    have hk : k = n := by omega
    subst hk
    have hl : (xs.length : Int) = k := by rw [← hn, ho.len]
    have he : ys = xs := by
      apply List.ext_getElem?
      intro j
      by_cases hj : j < k.toNat
      · exact hp j hj
      · rw [List.getElem?_eq_none (by omega), List.getElem?_eq_none (by omega)]
    subst he
    have h2 := lt_no ho k
    refine ho.loopR ?_
    cbv
    repeat ((first | rw [hn] | rw [h2]); (try cbv))
  | m + 1, k, ys, h0, h, hy, hp, hd => by
    have hl : (xs.length : Int) = n := by rw [← hn, ho.len]
    have hk : k.toNat < xs.length := by omega
    obtain ⟨x, hxk⟩ : ∃ x, xs[k.toNat]? = some x := ⟨_, List.getElem?_eq_getElem hk⟩
    obtain ⟨y, hyk⟩ : ∃ y, ys[k.toNat]? = some y := ⟨_, List.getElem?_eq_getElem (by omega)⟩
    obtain ⟨i, rfl⟩ := hx x (List.mem_of_getElem? hxk)
    obtain ⟨i2, rfl⟩ := hd y (List.mem_of_getElem? hyk)
    have ih := toIntS_loop xs n hn hm hx m (k + 1) (o.set ys k (.int .i64 i)) (by omega) (by omega) (by rw [ho.set]; simpa using hy) (by
      rw [ho.set]
      intro j hj
      by_cases hjk : k.toNat = j
      · subst hjk; rw [List.getElem?_set_self (by omega)]; exact hxk.symm
      · rw [List.getElem?_set_ne hjk]; exact hp j (by omega)) (by
      rw [ho.set]
      intro y hy
      rcases List.mem_or_eq_of_mem_set hy with hy | rfl
      · exact hd y hy
      · exact ⟨i, rfl⟩)
    have h2 := lt_yes ho (show k < n by omega)
    have h3 : o.elt xs k = some (.int .i64 i) := elt_some ho xs k _ h0 hxk
    have h5 := elt_some ho ys k _ h0 hyk
    have h4 := inc ho h0 (show k < n by omega) hm
    refine ho.loopR ?_
    cbv
    repeat ((first | rw [hn] | rw [h2] | rw [h3] | rw [h5] | rw [h4] | exact ih); (try cbv))
theorem toIntS {n : Nat} (ih : ToAll o n) : ToIntS o (n + 1) := by
  intro xs h hs
  obtain ⟨ys, m, em, e_, w, v⟩ := fits_lst Try.underlying23 h; injection e_ with e_; injection e_ with e_; subst e_; injection em with em; subst em
  simp only [Sm, SmL_iff] at hs
  have hm : ((xs.length : Nat) : Int) ≤ 1048576 := by omega
  have hx : ∀ x ∈ xs, ∃ i, x = .int .i64 i := by
    intro x hx
    obtain ⟨f1, f2⟩ := v x hx
    rw [show aggT Try.prog 3 = false by unfold aggT; rw [Try.underlying3]] at f2
    obtain ⟨i, e1, _⟩ := fits_int Try.underlying3 f1
    rw [one_cell f2] at e1; injection e1 with e1; exact ⟨i, e1⟩
  have hn : o.len xs = ((xs.length : Nat) : Int) := ho.len xs
  have h0 : (0 : Int) ≤ ((xs.length : Nat) : Int) := by omega
  have hN2 : (((xs.length : Nat) : Int)).toNat = xs.length := by omega
  generalize hN : ((xs.length : Nat) : Int) = N at hn hm h0 hN2
  have h2 : o.cmp .eql N N = true := by rw [ho.cmp]; simp [cmpI]
  have h3 : o.fitsN 8 N = true := by rw [ho.fitsN]; simp; omega
  refine ho.callR ?_
  cbv
  repeat ((first | rw [hn] | rw [h2] | rw [h3] | rw [toIntS_loop ho xs N hn (by omega) hx xs.length 0 _ (Int.le_refl _) (by omega) (by rw [ho.rep]; simp [hN2]) (by intro j hj; simp at hj) (by rw [ho.rep]; intro y hy; rw [(List.mem_replicate.1 hy).2]; exact ⟨_, rfl⟩)]); (try cbv))
theorem toKid_ev (c0 : ByteArray) (c1 : ByteArray) (c2 : Int) (c3 : Int) (c4 : ByteArray) (x5 : List D) (y5 : List D) (c6 : Int) (q2 : o.call 87 [.agg [.d (.int .i64 c2), .d (.int .i64 c3), .d (.str c4), .d (.lst x5)]] [] = some ⟨.agg [.d (.int .i64 c2), .d (.int .i64 c3), .d (.str c4), .arr (0, 0) (75, 4) none true], [], [some (.orows (75, 4) y5)]⟩) : o.call 64 [.agg [.d (.str c0), .d (.str c1), .d (.int .i64 c2), .d (.int .i64 c3), .d (.str c4), .d (.lst x5), .d (.int .i64 c6)]] [] = some ⟨.agg [.d (.str c0), .d (.str c1), .d (.int .i64 c2), .d (.int .i64 c3), .d (.str c4), .arr (0, 0) (75, 4) none true, .d (.int .i64 c6)], [], [some (.orows (75, 4) y5)]⟩ := by
  refine ho.callR ?_
  cbv
  rw [q2]
  cbv
theorem toKid {n : Nat} (ih : ToAll o n) : ToKid o (n + 1) := by
  intro ds h hs
  obtain ⟨ac0, ac1, ac2, ac3, ac4, ac5, ac6, rfl, ah0, ah1, ah2, ah3⟩ := fits95 h
  simp only [SmL] at hs
  have k0 := ah0
  obtain ⟨x0, e_, w0⟩ := fits_str Try.underlying9 ah0; injection e_ with e_; subst e_
  have k1 := ah1
  obtain ⟨x1, e_, w1⟩ := fits_str Try.underlying9 ah1; injection e_ with e_; subst e_
  obtain ⟨b2c0, b2c1, b2c2, b2x3, b2y3, e2, q2, g2, z2⟩ := (ih.2.2.2.2.1) _ ah2 (by simp only [SmL]; simp [hs])
  simp only [List.cons.injEq, and_true] at e2
  obtain ⟨rfl, rfl, rfl, rfl⟩ := e2
  simp only [List.map] at q2
  have k3 := ah3
  obtain ⟨x3, e_, w3⟩ := fits_int Try.underlying3 ah3; injection e_ with e_; subst e_
  exact ⟨x0, x1, b2c0, b2c1, b2c2, b2x3, b2y3, x3, rfl, toKid_ev ho x0 x1 b2c0 b2c1 b2c2 b2x3 b2y3 x3 q2, mkown97 ⟨(own_scalar (by rw [Try.underlying9]) k0), (own_scalar (by rw [Try.underlying9]) k1), g2, (own_scalar (by rw [Try.underlying3]) k3)⟩, z2⟩
theorem toTerm_ev (c0 : Int) (c1 : Int) (c2 : ByteArray) (x3 : List D) (y3 : List D) (q3 : o.call 97 [.d (.lst x3)] [] = some ⟨.arr (0, 0) (75, 4) none true, [], [some (.orows (75, 4) y3)]⟩) : o.call 87 [.agg [.d (.int .i64 c0), .d (.int .i64 c1), .d (.str c2), .d (.lst x3)]] [] = some ⟨.agg [.d (.int .i64 c0), .d (.int .i64 c1), .d (.str c2), .arr (0, 0) (75, 4) none true], [], [some (.orows (75, 4) y3)]⟩ := by
  refine ho.callR ?_
  cbv
  rw [q3]
  cbv
theorem toTerm {n : Nat} (ih : ToAll o n) : ToTerm o (n + 1) := by
  intro ds h hs
  obtain ⟨ac0, ac1, ac2, ac3, rfl, ah0, ah1, ah2, ah3⟩ := fits93 h
  simp only [SmL] at hs
  have k0 := ah0
  obtain ⟨x0, e_, w0⟩ := fits_int Try.underlying3 ah0; injection e_ with e_; subst e_
  have k1 := ah1
  obtain ⟨x1, e_, w1⟩ := fits_int Try.underlying3 ah1; injection e_ with e_; subst e_
  have k2 := ah2
  obtain ⟨x2, e_, w2⟩ := fits_str Try.underlying9 ah2; injection e_ with e_; subst e_
  have k3 := ah3; obtain ⟨x3, m3, em3, e_, w3, v3⟩ := fits_lst Try.underlying91 ah3; injection e_ with e_; subst e_
  obtain ⟨y3, q3, f3, g3⟩ := (ih.2.2.2.2.2) x3 k3 (by simp [hs])
  exact ⟨x0, x1, x2, x3, y3, rfl, toTerm_ev ho x0 x1 x2 x3 y3 q3, mkown75 ⟨(own_scalar (by rw [Try.underlying3]) k0), (own_scalar (by rw [Try.underlying3]) k1), (own_scalar (by rw [Try.underlying9]) k2), g3⟩, f3⟩
theorem toTermS_loop (nn : Nat) (xs : List D) (n : Int) (hn : o.len xs = n) (hm : n ≤ 9223372036854775807) (hx : ∀ x ∈ xs, ∃ (c0 : Int) (c1 : Int) (c2 : ByteArray) (x3 : List D) (y3 : List D), x = .agg [.int .i64 c0, .int .i64 c1, .str c2, .lst x3] ∧ o.call 87 [.agg [.d (.int .i64 c0), .d (.int .i64 c1), .d (.str c2), .d (.lst x3)]] [] = some ⟨.agg [.d (.int .i64 c0), .d (.int .i64 c1), .d (.str c2), .arr (0, 0) (75, 4) none true], [], [some (.orows (75, 4) y3)]⟩ ∧ Own Try.prog nn 75 [.int .i64 c0, .int .i64 c1, .str c2, .own (75, 4) y3] ∧ frozeL y3 = x3) : ∀ (m : Nat) (k : Int) (ys : List D), 0 ≤ k → k + m = n → ys.length = xs.length → (∀ y ∈ ys, ∃ d0 d1 d2 d3, y = .agg [d0, d1, d2, d3]) →
    ∃ zs, o.loop 9700 ⟨[.d (.lst xs), .undef, .undef, .arr (7, 0) (75, 4) none true, .d (.int .i64 k), .undef, .undef, .undef, .undef, .undef, .undef, .undef, .undef, .undef, .undef, .undef, .undef, .undef, .undef, .undef, .undef, .undef, .undef], [[], [], [], [], [], [], [], [some (.orows (75, 4) ys)], [], [], [], [], [], [], [], [], [], [], [], [], [], [], []]⟩ = some (.exit 0, ⟨[.undef, .undef, .undef, .arr (7, 0) (75, 4) none true, .undef, .undef, .undef, .undef, .undef, .undef, .undef, .undef, .undef, .undef, .undef, .undef, .undef, .undef, .undef, .undef, .undef, .undef, .undef], [[], [], [], [], [], [], [], [some (.orows (75, 4) zs)], [], [], [], [], [], [], [], [], [], [], [], [], [], [], []]⟩) ∧ zs.length = xs.length ∧ (∀ j, j < k.toNat → zs[j]? = ys[j]?) ∧ ∀ j, k.toNat ≤ j → ∀ x z, xs[j]? = some x → zs[j]? = some z → frozeD z = x ∧ Own Try.prog nn 75 z.cells ∧ z.many = true
  | 0, k, ys, h0, h, hy, hd => by
    have hk : k = n := by omega
    subst hk
    have hl : (xs.length : Int) = k := by rw [← hn, ho.len]
    have h2 := lt_no ho k
    refine ⟨ys, ho.loopR ?_, hy, fun _ _ => rfl, fun j hj x z hx _ => ?_⟩
    · clear hx hl hd
      cbv
      repeat ((first | rw [hn] | rw [h2]); (try cbv))
    · have := (List.getElem?_eq_some_iff.1 hx).1; omega
  | m + 1, k, ys, h0, h, hy, hd => by
    have hl : (xs.length : Int) = n := by rw [← hn, ho.len]
    have hk : k.toNat < xs.length := by omega
    obtain ⟨x, hxk⟩ : ∃ x, xs[k.toNat]? = some x := ⟨_, List.getElem?_eq_getElem hk⟩
    obtain ⟨y, hyk⟩ : ∃ y, ys[k.toNat]? = some y := ⟨_, List.getElem?_eq_getElem (by omega)⟩
    obtain ⟨c0, c1, c2, x3, y3, rfl, hc, hown, hfz⟩ := hx x (List.mem_of_getElem? hxk)
    obtain ⟨d0, d1, d2, d3, rfl⟩ := hd y (List.mem_of_getElem? hyk)
    obtain ⟨zs, i1, i2, i3, i4⟩ := toTermS_loop nn xs n hn hm hx m (k + 1) (o.set ys k (.agg [.int .i64 c0, .int .i64 c1, .str c2, .own (75, 4) y3])) (by omega) (by omega) (by rw [ho.set]; simpa using hy) (by
      rw [ho.set]
      intro y hy
      rcases List.mem_or_eq_of_mem_set hy with hy | rfl
      · exact hd y hy
      · exact ⟨_, _, _, _, rfl⟩)
    have h2 := lt_yes ho (show k < n by omega)
    have h3 : o.elt xs k = some (.agg [.int .i64 c0, .int .i64 c1, .str c2, .lst x3]) := elt_some ho xs k _ h0 hxk
    have h5 := elt_some ho ys k _ h0 hyk
    have h4 := inc ho h0 (show k < n by omega) hm
    refine ⟨zs, ho.loopR ?_, i2, fun j hj => ?_, fun j hj x z hxj hzj => ?_⟩
    · clear hx hl hd i4 hown hfz
      cbv
      repeat ((first | rw [hn] | rw [h2] | rw [h3] | rw [hc] | rw [h5] | rw [h4] | exact i1); (try cbv))
    · rw [i3 j (by omega), ho.set, List.getElem?_set_ne (by omega)]
    · by_cases hjk : j = k.toNat
      · subst hjk
        rw [hxk] at hxj
        injection hxj with hxj
        subst hxj
        rw [i3 _ (by omega), ho.set, List.getElem?_set_self (by omega)] at hzj
        injection hzj with hzj
        subst hzj
        exact ⟨by simp only [frozeD, frozeL, hfz], hown, rfl⟩
      · exact i4 j (by omega) x z hxj hzj
theorem toTermS {n : Nat} (ih : ToAll o n) : ToTermS o (n + 1) := by
  intro xs h hs
  obtain ⟨ys, m, em, e_, w, v⟩ := fits_lst Try.underlying91 h; injection e_ with e_; injection e_ with e_; subst e_; injection em with em; subst em
  simp only [Sm, SmL_iff] at hs
  have hm : ((xs.length : Nat) : Int) ≤ 1048576 := by omega
  have hx : ∀ x ∈ xs, ∃ (c0 : Int) (c1 : Int) (c2 : ByteArray) (x3 : List D) (y3 : List D), x = .agg [.int .i64 c0, .int .i64 c1, .str c2, .lst x3] ∧ o.call 87 [.agg [.d (.int .i64 c0), .d (.int .i64 c1), .d (.str c2), .d (.lst x3)]] [] = some ⟨.agg [.d (.int .i64 c0), .d (.int .i64 c1), .d (.str c2), .arr (0, 0) (75, 4) none true], [], [some (.orows (75, 4) y3)]⟩ ∧ Own Try.prog n 75 [.int .i64 c0, .int .i64 c1, .str c2, .own (75, 4) y3] ∧ frozeL y3 = x3 := by
    intro x hx
    obtain ⟨f1, f2⟩ := v x hx
    rw [show aggT Try.prog 93 = true by unfold aggT; rw [Try.underlying93]] at f2
    obtain ⟨c0, c1, c2, x3, y3, e1, q, g, z⟩ := (ih.2.2.2.2.1) _ f1 (Sm_cells (hs.2 x hx))
    rw [e1] at q
    exact ⟨c0, c1, c2, x3, y3, by rw [many_agg f2, e1], q, g, z⟩
  have hn : o.len xs = ((xs.length : Nat) : Int) := ho.len xs
  have h0 : (0 : Int) ≤ ((xs.length : Nat) : Int) := by omega
  have hN2 : (((xs.length : Nat) : Int)).toNat = xs.length := by omega
  generalize hN : ((xs.length : Nat) : Int) = N at hn hm h0 hN2
  obtain ⟨zs, i1, i2, i3, i4⟩ := toTermS_loop ho n xs N hn (by omega) hx xs.length 0 (o.rep N (.agg [(.int .i64 0), (.int .i64 0), (.str ⟨#[]⟩), .lst []])) (Int.le_refl _) (by omega) (by rw [ho.rep]; simp [hN2]) (by rw [ho.rep]; intro y hy; rw [(List.mem_replicate.1 hy).2]; exact ⟨_, _, _, _, rfl⟩)
  have h2 : o.cmp .eql N N = true := by rw [ho.cmp]; simp [cmpI]
  have h3 : o.fitsN 56 N = true := by rw [ho.fitsN]; simp; omega
  have h4 : o.flat (o.rep N (.agg [(.int .i64 0), (.int .i64 0), (.str ⟨#[]⟩), .lst []])) = true := by rw [ho.flat, ho.rep]; simp [List.all_eq_true, plainC]
  refine ⟨zs, ho.callR ?_, ?_, ?_⟩
  · clear hx hs i3 i4 v
    cbv
    repeat ((first | rw [hn] | rw [h2] | rw [h3] | rw [h4] | rw [i1]); (try cbv))
  · rw [frozeL_map]
    apply List.ext_getElem?
    intro j
    rw [List.getElem?_map]
    cases hj : xs[j]? with
    | none => rw [List.getElem?_eq_none (by rw [i2]; exact List.getElem?_eq_none_iff.1 hj)]; rfl
    | some x =>
      obtain ⟨z, hz⟩ : ∃ z, zs[j]? = some z := ⟨_, List.getElem?_eq_getElem (by rw [i2]; exact (List.getElem?_eq_some_iff.1 hj).1)⟩
      rw [hz, Option.map_some, (i4 j (by simp) x z hj hz).1]
  · refine mk_own_lst Try.underlying73 co75 (by rw [i2]; exact w) fun z hz => ?_
    obtain ⟨j, hj⟩ := List.getElem?_of_mem hz
    obtain ⟨x, hxj⟩ : ∃ x, xs[j]? = some x := ⟨_, List.getElem?_eq_getElem (by rw [← i2]; exact (List.getElem?_eq_some_iff.1 hj).1)⟩
    obtain ⟨_, r2, r3⟩ := i4 j (by simp) x z hxj hj
    exact ⟨r2, by rw [r3]; unfold aggT; rw [Try.underlying75]⟩
theorem toAll : ∀ n, ToAll o n
  | 0 => by
    unfold ToAll
    refine ⟨?_, ?_, ?_, ?_, ?_, ?_⟩ <;> (intro x h; simp [Fits] at h)
  | n + 1 => have ih := toAll n; ⟨toOver ho ih, toKidS ho ih, toIntS ho ih, toKid ho ih, toTerm ho ih, toTermS ho ih⟩
end T1
