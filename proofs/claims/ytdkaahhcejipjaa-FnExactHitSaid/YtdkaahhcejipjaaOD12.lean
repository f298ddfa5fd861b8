import Derived.Test.YtdkaahhcejipjaaOD11
import Derived.Test.YtdkaahhcejipjaaProg
import Derived.KernelRfl
set_option linter.unusedVariables false
set_option linter.unusedSimpArgs false
set_option linter.unnecessarySimpa false
set_option linter.unusedSectionVars false
open Go Go.Vi Go.Proofs
namespace T1
set_option maxRecDepth 100000
set_option maxHeartbeats 4000000
set_option linter.unusedVariables false
set_option linter.constructorNameAsVariable false
variable {o : Ora} (ho : IsDen vfun vloop o)
def CT (o : Ora) (n : Nat) : Prop := ∀ cs, Fits Try.prog n 75 cs → SmL 1048576 cs → ∃ k m s xs ys, cs = [.int .i64 k, .int .i64 m, .str s, .lst xs] ∧ o.call 65 [.agg [.d (.int .i64 k), .d (.int .i64 m), .d (.str s), .d (.lst xs)]] [] = some ⟨.agg [.d (.int .i64 k), .d (.int .i64 m), .d (.str s), .arr (0, 0) (75, 4) none false], [], [some (.orows (75, 4) ys)]⟩ ∧ frozeL ys = xs ∧ Own Try.prog n 75 [.int .i64 k, .int .i64 m, .str s, .own (75, 4) ys]
def CTS (o : Ora) (n : Nat) : Prop := ∀ xs, Fits Try.prog n 73 [.lst xs] → Sm 1048576 (.lst xs) → ∃ ys, o.call 88 [.d (.lst xs)] [] = some ⟨.arr (0, 0) (75, 4) none false, [], [some (.orows (75, 4) ys)]⟩ ∧ frozeL ys = xs ∧ Own Try.prog n 73 [.own (75, 4) ys]
def L2 (o : Ora) (n : Nat) : Prop := ∀ cs, Fits Try.prog n 75 cs → SmL 1048576 cs → o.call 62 [.agg (cs.map .d)] [] = some ⟨.agg (cs.map .d), [], []⟩
include ho
theorem fits_small {z b : Nat} {xs : List D} (h : (xs.length : Int) ≤ 2097152) (hb : b ≤ 96) (hc : ∀ x ∈ xs, x.cells.length = z) : o.fits z b xs = true := by
  rw [ho.fits]
  have h1 : xs.length * b ≤ 2097152 * 96 := Nat.mul_le_mul (by omega) hb
  have h2 : xs.all (fun x => x.cells.length == z) = true := by rw [List.all_eq_true]; intro x hx; simp [hc x hx]
  rw [h2, Bool.and_true]
  simp only [decide_eq_true_eq]
  unfold maxLen
  omega
/-! ### markText -/
theorem one_byte (c : Int) : ∃ t, o.ofBytes [.int .u8 c] = some t ∧ t.size = 1 := ⟨⟨#[UInt8.ofNat c.toNat]⟩, by rw [ho.ofBytes]; rfl, rfl⟩
theorem sfits_small {a b : ByteArray} (h : a.size + b.size ≤ 2000) : o.sFits a b = true := by
  rw [ho.sFits]
  simp only [decide_eq_true_eq]
  have : IntKind.i64.max = 9223372036854775807 := rfl
  rw [this]
  omega
theorem tx_loop : ∀ (q : Nat) (k : Int) (u : ByteArray), 0 ≤ k → k ≤ 9223372036854775807 → k < 10 ^ q → u.size + q ≤ 1000 → ∃ s, o.loop 7000 ⟨[.d (.int .i64 k), .undef, .undef, .d (.str u), .undef, .undef, .undef, .undef, .undef, .undef, .undef, .undef, .undef, .undef, .undef, .undef, .undef, .undef, .undef, .undef], [[], [], [], [], [], [], [], [], [], [], [], [], [], [], [], [], [], [], [], []]⟩ = some (.exit 0, ⟨[.undef, .undef, .undef, .d (.str s), .undef, .undef, .undef, .undef, .undef, .undef, .undef, .undef, .undef, .undef, .undef, .undef, .undef, .undef, .undef, .undef], [[], [], [], [], [], [], [], [], [], [], [], [], [], [], [], [], [], [], [], []]⟩) ∧ s.size ≤ 1000
  | q, k, u, h0, hk9, h1, h2 => by
    obtain ⟨t, ht, hts⟩ := one_byte ho (o.wrap .u8 (o.ar .add .i64 48 (o.ar .rem .i64 k 10)))
    have hz : o.isZero 10 = false := by rw [ho.isZero]; rfl
    have st := tx_step ho k (o.ar .quo .i64 k 10) _ _ _ u t _ rfl hz rfl rfl ht (sfits_small ho (by omega)) rfl rfl
    rw [gt_of ho] at st
    by_cases hk : k > 0
    · rw [show decide (k > 0) = true by simpa using hk] at st
      cases q with
      | zero => simp at h1; omega
      | succ q =>
        have hq : o.ar .quo .i64 k 10 = k / 10 := by
          rw [ho.ar]
          simp only [arI]
          rw [Int.tdiv_eq_ediv_of_nonneg h0]
          exact wrap_id (by omega) (by omega)
        rw [hq] at st
        obtain ⟨s, i1, i2⟩ := tx_loop q (k / 10) (o.sAdd t u) (by omega) (by omega) (by rw [Int.pow_succ] at h1; omega) (by rw [ho.sAdd, ByteArray.size_append]; omega)
        exact ⟨s, st _ i1, i2⟩
    · rw [show decide (k > 0) = false by simpa using hk] at st
      exact ⟨u, st _ rfl, by omega⟩
theorem mt : MT o := by
  intro k h0 h1
  by_cases hk : k ≤ 0
  · exact ⟨_, tx_lo ho k (by rw [le_of ho]; simpa using hk)⟩
  · obtain ⟨s, i1, i2⟩ := tx_loop ho 19 k ⟨#[]⟩ h0 (by omega) (by omega) (by decide)
    exact ⟨_, tx_hi ho k s _ (by rw [le_of ho]; simpa using hk) i1 (sfits_small ho (by have : ByteArray.size ⟨#[109]⟩ = 1 := rfl; omega)) rfl⟩
/-! ### copies -/
theorem ct_loop (nn : Nat) (xs : List D) (n : Int) (hn : (xs.length : Int) = n) (hm : n ≤ 1048576) (hx : ∀ x ∈ xs, ∃ k m s ys zs, x = .agg [.int .i64 k, .int .i64 m, .str s, .lst ys] ∧ o.call 65 [.agg [.d (.int .i64 k), .d (.int .i64 m), .d (.str s), .d (.lst ys)]] [] = some ⟨.agg [.d (.int .i64 k), .d (.int .i64 m), .d (.str s), .arr (0, 0) (75, 4) none false], [], [some (.orows (75, 4) zs)]⟩ ∧ frozeL zs = ys ∧ Own Try.prog nn 75 [.int .i64 k, .int .i64 m, .str s, .own (75, 4) zs]) : ∀ (q : Nat) (i : Int) (acc : List D), 0 ≤ i → i + q = n → (acc.length : Int) = i → (∀ a ∈ acc, a.cells.length = 4) →
    ∃ ws, o.loop 8800 ⟨[.undef, .undef, .undef, .arr (16, 0) (75, 4) none false, .undef, .undef, .d (.lst xs), .d (.int .i64 n), .d (.int .i64 i), .undef, .undef, .undef, .undef, .undef, .undef, .undef, .undef, .undef, .undef], [[], [], [], [], [], [], [], [], [], [], [], [], [], [], [], [], [some (.orows (75, 4) acc)], [], []]⟩ = some (.exit 0, ⟨[.undef, .undef, .undef, .arr (16, 0) (75, 4) none false, .undef, .undef, .undef, .undef, .undef, .undef, .undef, .undef, .undef, .undef, .undef, .undef, .undef, .undef, .undef], [[], [], [], [], [], [], [], [], [], [], [], [], [], [], [], [], [some (.orows (75, 4) (acc ++ ws))], [], []]⟩) ∧ frozeL ws = xs.drop i.toNat ∧ ∀ z ∈ ws, Own Try.prog nn 75 z.cells ∧ z.many = true
  | 0, i, acc, h0, h, ha, hc => by
    have hi : i = n := by omega
    subst hi
    refine ⟨[], ?_, by rw [List.drop_eq_nil_of_le (by omega)]; rfl, by simp⟩
    rw [List.append_nil]
    exact ct_end ho xs acc i (lt_no ho i)
  | q + 1, i, acc, h0, h, ha, hc => by
    obtain ⟨x, hxi⟩ : ∃ x, xs[i.toNat]? = some x := ⟨_, List.getElem?_eq_getElem (by omega)⟩
    obtain ⟨p1, p2⟩ := List.getElem?_eq_some_iff.1 hxi
    have hdr : xs.drop i.toNat = x :: xs.drop (i + 1).toNat := by rw [List.drop_eq_getElem_cons p1, p2, show (i + 1).toNat = i.toNat + 1 by omega]
    obtain ⟨k, m, s, ys, zs, rfl, hcall, hz, hown⟩ := hx x (List.mem_of_getElem? hxi)
    have hc2 : ∀ a ∈ acc ++ [.agg [.int .i64 k, .int .i64 m, .str s, .own (75, 4) zs]], a.cells.length = 4 := by
      intro a h'
      rcases List.mem_append.1 h' with h' | h'
      · exact hc a h'
      · rw [List.mem_singleton.1 h']; rfl
    obtain ⟨ws, i1, i2, i3⟩ := ct_loop nn xs n hn hm hx q (i + 1) (acc ++ [.agg [.int .i64 k, .int .i64 m, .str s, .own (75, 4) zs]]) (by omega) (by omega) (by simp; omega) hc2
    refine ⟨.agg [.int .i64 k, .int .i64 m, .str s, .own (75, 4) zs] :: ws, ?_, ?_, ?_⟩
    · have := ct_step ho xs ys zs acc _ n i (i + 1) k m s (lt_yes ho (by omega)) (elt_some ho xs i _ h0 hxi) hcall (ho.app _ _) (fits_small ho (by simp; omega) (by omega) hc2) (add_of ho (by omega) (by omega)) _ i1
      rw [List.append_assoc] at this
      exact this
    · rw [hdr]; simp only [frozeL, frozeD, hz, i2]
    · intro z hz'
      rcases List.mem_cons.1 hz' with rfl | hz'
      · exact ⟨hown, rfl⟩
      · exact i3 z hz'
theorem ctAll : ∀ n, CT o n ∧ CTS o n
  | 0 => ⟨fun cs h => by simp [Fits] at h, fun xs h => by simp [Fits] at h⟩
  | n + 1 => by
    obtain ⟨ih1, ih2⟩ := ctAll n
    refine ⟨fun cs h hs => ?_, fun xs h hs => ?_⟩
    · obtain ⟨c0, c1, c2, c3, rfl, h0, h1, h2, h3⟩ := fits75 h
      simp only [SmL] at hs
      have k0 := h0; have k1 := h1; have k2 := h2; have k3 := h3
      obtain ⟨k, e_, _⟩ := fits_int Try.underlying3 h0; injection e_ with e_; subst e_
      obtain ⟨m, e_, _⟩ := fits_int Try.underlying3 h1; injection e_ with e_; subst e_
      obtain ⟨s, e_, _⟩ := fits_str Try.underlying9 h2; injection e_ with e_; subst e_
      obtain ⟨xs, q, eq, e_, hx, hall⟩ := fits_lst Try.underlying73 h3; injection e_ with e_; subst e_
      obtain ⟨ys, y1, y2, y3⟩ := ih2 xs k3 hs.2.2.2.1
      exact ⟨k, m, s, xs, ys, rfl, ct65 ho k m s xs ys y1, y2, mkown75 ⟨own_scalar (by rw [Try.underlying3]) k0, own_scalar (by rw [Try.underlying3]) k1, own_scalar (by rw [Try.underlying9]) k2, y3⟩⟩
    · obtain ⟨ys, q, eq, e_, hx, hall⟩ := fits_lst Try.underlying73 h
      injection e_ with e_; injection e_ with e_; subst e_
      injection eq with eq; subst eq
      simp only [Sm, SmL_iff] at hs
      have hx65 : ∀ x ∈ xs, ∃ k m s ys zs, x = .agg [.int .i64 k, .int .i64 m, .str s, .lst ys] ∧ o.call 65 [.agg [.d (.int .i64 k), .d (.int .i64 m), .d (.str s), .d (.lst ys)]] [] = some ⟨.agg [.d (.int .i64 k), .d (.int .i64 m), .d (.str s), .arr (0, 0) (75, 4) none false], [], [some (.orows (75, 4) zs)]⟩ ∧ frozeL zs = ys ∧ Own Try.prog n 75 [.int .i64 k, .int .i64 m, .str s, .own (75, 4) zs] := by
        intro x hm
        obtain ⟨f1, f2⟩ := hall x hm
        rw [show aggT Try.prog 75 = true by unfold aggT; rw [Try.underlying75]] at f2
        obtain ⟨k, m, s, ys, zs, e, g1, g2, g3⟩ := ih1 x.cells f1 (Sm_cells (hs.2 x hm))
        exact ⟨k, m, s, ys, zs, by rw [many_agg f2, e], g1, g2, g3⟩
      obtain ⟨ws, w1, w2, w3⟩ := ct_loop ho n xs xs.length rfl (by omega) hx65 xs.length 0 [] (Int.le_refl _) (by omega) rfl (by simp)
      rw [List.nil_append] at w1
      refine ⟨ws, ct88 ho xs ws _ (ho.len xs) w1, by simpa using w2, mk_own_lst Try.underlying73 co75 ?_ fun z hz => ?_⟩
      · have := congrArg List.length w2
        rw [frozeL_len] at this
        simp at this
        omega
      · exact ⟨(w3 z hz).1, by rw [(w3 z hz).2]; unfold aggT; rw [Try.underlying75]⟩
theorem cv_loop (nn : Nat) (wy mr mt : Int) (ks ps ts : List D) (dn : Bool) (n : Int) (hn : (ks.length : Int) = n) (hm : n ≤ 1048576) (hx : ∀ x ∈ ks, ∃ a b k m s ys u zs, x = .agg [.str a, .str b, .int .i64 k, .int .i64 m, .str s, .lst ys, .int .i64 u] ∧ o.call 65 [.agg [.d (.int .i64 k), .d (.int .i64 m), .d (.str s), .d (.lst ys)]] [] = some ⟨.agg [.d (.int .i64 k), .d (.int .i64 m), .d (.str s), .arr (0, 0) (75, 4) none false], [], [some (.orows (75, 4) zs)]⟩ ∧ frozeL zs = ys ∧ Own Try.prog nn 97 [.str a, .str b, .int .i64 k, .int .i64 m, .str s, .own (75, 4) zs, .int .i64 u]) : ∀ (q : Nat) (i : Int) (acc : List D), 0 ≤ i → i + q = n → (acc.length : Int) = i → (∀ a ∈ acc, a.cells.length = 7) →
    ∃ ws, o.loop 3700 ⟨[.undef, .ptr (1, 0) 0, .ptr (2, 0) 0, .ptr (3, 0) 0, .undef, .undef, .undef, .undef, .undef, .d (.lst ks), .d (.int .i64 n), .d (.int .i64 i), .undef, .undef, .undef, .undef, .undef, .undef, .undef, .undef, .undef, .undef, .undef, .undef, .undef, .undef, .undef, .undef, .undef, .undef, .undef, .undef, .undef, .undef, .undef], [[], [some (.box [.d (.int .i64 wy), .d (.int .i64 mr), .d (.int .i64 mt), .d (.lst ks), .d (.lst ps), .d (.lst ts), .d (.bool dn)])], [some (.box [.d (.int .i64 0), .d (.int .i64 0), .d (.int .i64 0), .emp, .emp, .emp, .d (.bool false)])], [some (.box [.d (.int .i64 wy), .d (.int .i64 mr), .d (.int .i64 mt), .arr (23, 0) (97, 7) none false, .d (.lst ps), .d (.lst ts), .d (.bool dn)])], [], [], [], [], [], [], [], [], [], [], [], [], [], [], [], [], [], [], [], [some (.orows (97, 7) acc)], [], [], [], [], [], [], [], [], [], [], []]⟩ = some (.exit 0, ⟨[.undef, .ptr (1, 0) 0, .ptr (2, 0) 0, .ptr (3, 0) 0, .undef, .undef, .undef, .undef, .undef, .undef, .undef, .undef, .undef, .undef, .undef, .undef, .undef, .undef, .undef, .undef, .undef, .undef, .undef, .undef, .undef, .undef, .undef, .undef, .undef, .undef, .undef, .undef, .undef, .undef, .undef], [[], [some (.box [.d (.int .i64 wy), .d (.int .i64 mr), .d (.int .i64 mt), .d (.lst ks), .d (.lst ps), .d (.lst ts), .d (.bool dn)])], [some (.box [.d (.int .i64 0), .d (.int .i64 0), .d (.int .i64 0), .emp, .emp, .emp, .d (.bool false)])], [some (.box [.d (.int .i64 wy), .d (.int .i64 mr), .d (.int .i64 mt), .arr (23, 0) (97, 7) none false, .d (.lst ps), .d (.lst ts), .d (.bool dn)])], [], [], [], [], [], [], [], [], [], [], [], [], [], [], [], [], [], [], [], [some (.orows (97, 7) (acc ++ ws))], [], [], [], [], [], [], [], [], [], [], []]⟩) ∧ frozeL ws = ks.drop i.toNat ∧ ∀ z ∈ ws, Own Try.prog nn 97 z.cells ∧ z.many = true
  | 0, i, acc, h0, h, ha, hc => by
    have hi : i = n := by omega
    subst hi
    refine ⟨[], ?_, by rw [List.drop_eq_nil_of_le (by omega)]; rfl, by simp⟩
    rw [List.append_nil]
    exact cv_end ho wy mr mt ks ps ts dn acc i (lt_no ho i)
  | q + 1, i, acc, h0, h, ha, hc => by
    obtain ⟨x, hxi⟩ : ∃ x, ks[i.toNat]? = some x := ⟨_, List.getElem?_eq_getElem (by omega)⟩
    obtain ⟨p1, p2⟩ := List.getElem?_eq_some_iff.1 hxi
    have hdr : ks.drop i.toNat = x :: ks.drop (i + 1).toNat := by rw [List.drop_eq_getElem_cons p1, p2, show (i + 1).toNat = i.toNat + 1 by omega]
    obtain ⟨a, b, k, m, s, ys, u, zs, rfl, hcall, hz, hown⟩ := hx x (List.mem_of_getElem? hxi)
    have hc2 : ∀ y ∈ acc ++ [.agg [.str a, .str b, .int .i64 k, .int .i64 m, .str s, .own (75, 4) zs, .int .i64 u]], y.cells.length = 7 := by
      intro y h'
      rcases List.mem_append.1 h' with h' | h'
      · exact hc y h'
      · rw [List.mem_singleton.1 h']; rfl
    obtain ⟨ws, i1, i2, i3⟩ := cv_loop nn wy mr mt ks ps ts dn n hn hm hx q (i + 1) (acc ++ [.agg [.str a, .str b, .int .i64 k, .int .i64 m, .str s, .own (75, 4) zs, .int .i64 u]]) (by omega) (by omega) (by simp; omega) hc2
    refine ⟨.agg [.str a, .str b, .int .i64 k, .int .i64 m, .str s, .own (75, 4) zs, .int .i64 u] :: ws, ?_, ?_, ?_⟩
    · have := cv_step ho wy mr mt ks ps ts dn ys zs acc _ n i (i + 1) a b k m s u (lt_yes ho (by omega)) (elt_some ho ks i _ h0 hxi) hcall (ho.app _ _) (fits_small ho (by simp; omega) (by omega) hc2) (add_of ho (by omega) (by omega)) _ i1
      rw [List.append_assoc] at this
      exact this
    · rw [hdr]; simp only [frozeL, frozeD, hz, i2]
    · intro z hz'
      rcases List.mem_cons.1 hz' with rfl | hz'
      · exact ⟨hown, rfl⟩
      · exact i3 z hz'
theorem kid_open {n : Nat} {x : D} (hm : x.many = true) (h : Fits Try.prog n 97 x.cells) (hs : SmL 1048576 x.cells) : ∃ a b k m s ys u zs p, n = p + 1 ∧ x = .agg [.str a, .str b, .int .i64 k, .int .i64 m, .str s, .lst ys, .int .i64 u] ∧ Fits Try.prog p 75 [.int .i64 k, .int .i64 m, .str s, .lst ys] ∧ o.call 65 [.agg [.d (.int .i64 k), .d (.int .i64 m), .d (.str s), .d (.lst ys)]] [] = some ⟨.agg [.d (.int .i64 k), .d (.int .i64 m), .d (.str s), .arr (0, 0) (75, 4) none false], [], [some (.orows (75, 4) zs)]⟩ ∧ frozeL zs = ys ∧ Own Try.prog n 97 [.str a, .str b, .int .i64 k, .int .i64 m, .str s, .own (75, 4) zs, .int .i64 u] := by
  cases n with
  | zero => simp [Fits] at h
  | succ n =>
    obtain ⟨c0, c1, c2, c3, c4, c5, c6, e, h0, h1, h2, h3⟩ := fits97 h
    rw [e] at hs
    simp only [SmL] at hs
    have k0 := h0; have k1 := h1; have k3 := h3; have k2 := h2
    obtain ⟨a, e_, _⟩ := fits_str Try.underlying9 h0; injection e_ with e_; subst e_
    obtain ⟨b, e_, _⟩ := fits_str Try.underlying9 h1; injection e_ with e_; subst e_
    obtain ⟨u, e_, _⟩ := fits_int Try.underlying3 h3; injection e_ with e_; subst e_
    obtain ⟨k, m, s, ys, zs, e2, g1, g2, g3⟩ := (ctAll ho n).1 _ h2 (by simp only [SmL]; simp [hs])
    simp only [List.cons.injEq, and_true] at e2
    obtain ⟨rfl, rfl, rfl, rfl⟩ := e2
    exact ⟨a, b, k, m, s, ys, u, zs, n, rfl, by rw [many_agg hm, e], k2, g1, g2, mkown97 ⟨own_scalar (by rw [Try.underlying9]) k0, own_scalar (by rw [Try.underlying9]) k1, g3, own_scalar (by rw [Try.underlying3]) k3⟩⟩
theorem ints_fit {xs : List D} (h : xs.length ≤ 1048576) (hi : (∀ x ∈ xs, ∃ p, x = .int .i64 p)) : o.fits 1 8 xs = true := fits_small ho (by omega) (by omega) fun x hx => by obtain ⟨p, rfl⟩ := hi x hx; rfl
theorem copyOver (wy mr mt : Int) (ks ps ts : List D) (dn : Bool) {n : Nat} (hk : Fits Try.prog (n + 1) 27 [.lst ks]) (sk : Sm 1048576 (.lst ks)) (hp : (∀ x ∈ ps, ∃ p, x = .int .i64 p)) (sp : ps.length ≤ 1048576) (ht : (∀ x ∈ ts, ∃ p, x = .int .i64 p)) (st : ts.length ≤ 1048576) :
    ∃ ys, o.call 37 [.agg [.d (.int .i64 wy), .d (.int .i64 mr), .d (.int .i64 mt), .d (.lst ks), .d (.lst ps), .d (.lst ts), .d (.bool dn)]] [] = some ⟨.agg [.d (.int .i64 wy), .d (.int .i64 mr), .d (.int .i64 mt), .arr (0, 0) (97, 7) none false, .arr (0, 1) (3, 1) none false, .arr (0, 2) (3, 1) none false, .d (.bool dn)], [], [some (.orows (97, 7) ys), some (.rows (3, 1) ps), some (.rows (3, 1) ts)]⟩ ∧ frozeL ys = ks ∧ Own Try.prog (n + 1) 27 [.own (97, 7) ys] := by
  obtain ⟨ys, q, eq, e_, hx, hall⟩ := fits_lst Try.underlying27 hk
  injection e_ with e_; injection e_ with e_; subst e_
  injection eq with eq; subst eq
  simp only [Sm, SmL_iff] at sk
  have hxk : ∀ x ∈ ks, ∃ a b k m s ys u zs, x = .agg [.str a, .str b, .int .i64 k, .int .i64 m, .str s, .lst ys, .int .i64 u] ∧ o.call 65 [.agg [.d (.int .i64 k), .d (.int .i64 m), .d (.str s), .d (.lst ys)]] [] = some ⟨.agg [.d (.int .i64 k), .d (.int .i64 m), .d (.str s), .arr (0, 0) (75, 4) none false], [], [some (.orows (75, 4) zs)]⟩ ∧ frozeL zs = ys ∧ Own Try.prog n 97 [.str a, .str b, .int .i64 k, .int .i64 m, .str s, .own (75, 4) zs, .int .i64 u] := by
    intro x hm
    obtain ⟨f1, f2⟩ := hall x hm
    rw [show aggT Try.prog 97 = true by unfold aggT; rw [Try.underlying97]] at f2
    obtain ⟨a, b, k, m, s, ys, u, zs, p, _, g0, _, g1, g2, g3⟩ := kid_open ho f2 f1 (Sm_cells (sk.2 x hm))
    exact ⟨a, b, k, m, s, ys, u, zs, g0, g1, g2, g3⟩
  obtain ⟨ws, w1, w2, w3⟩ := cv_loop ho n wy mr mt ks ps ts dn ks.length rfl (by omega) hxk ks.length 0 [] (Int.le_refl _) (by omega) rfl (by simp)
  rw [List.nil_append] at w1
  refine ⟨ws, cv37 ho wy mr mt ks ps ts dn ws _ (ho.len ks) w1 (ints_fit ho sp hp) (ints_fit ho st ht), by simpa using w2, mk_own_lst Try.underlying27 co97 ?_ fun z hz => ?_⟩
  · have := congrArg List.length w2
    rw [frozeL_len] at this
    simp at this
    omega
  · exact ⟨(w3 z hz).1, by rw [(w3 z hz).2]; unfold aggT; rw [Try.underlying97]⟩
theorem l2_loop (k m : Int) (s : ByteArray) (xs : List D) (n : Int) (hn : (xs.length : Int) = n) (hm : n ≤ 1048576) (hx : ∀ x ∈ xs, ∃ k m s ys, x = .agg [.int .i64 k, .int .i64 m, .str s, .lst ys] ∧ o.call 62 [.agg [.d (.int .i64 k), .d (.int .i64 m), .d (.str s), .d (.lst ys)]] [] = some ⟨.agg [.d (.int .i64 k), .d (.int .i64 m), .d (.str s), .d (.lst ys)], [], []⟩) : ∀ (q : Nat) (i : Int) (acc : List D), 0 ≤ i → i + q = n → acc = xs.take i.toNat → o.loop 6200 ⟨[.undef, .ptr (1, 0) 0, .ptr (2, 0) 0, .ptr (3, 0) 0, .d (.int .i64 i), .undef, .undef, .undef, .undef, .undef, .undef, .undef, .undef, .undef, .undef, .undef, .undef, .undef, .undef, .undef, .undef, .undef, .undef, .undef, .undef, .undef, .undef], [[], [some (.box [.d (.int .i64 k), .d (.int .i64 m), .d (.str s), .d (.lst xs)])], [some (.box [.d (.int .i64 0), .d (.int .i64 0), .d (.str ⟨#[]⟩), .emp])], [some (.box [.d (.int .i64 k), .d (.int .i64 m), .d (.str s), .arr (24, 0) (75, 4) none false])], [], [], [], [], [], [], [], [], [], [], [], [], [], [], [], [], [], [], [], [], [some (.rows (75, 4) acc)], [], []]⟩ = some (.exit 0, ⟨[.undef, .undef, .ptr (2, 0) 0, .ptr (3, 0) 0, .undef, .undef, .undef, .undef, .undef, .undef, .undef, .undef, .undef, .undef, .undef, .undef, .undef, .undef, .undef, .undef, .undef, .undef, .undef, .undef, .undef, .undef, .undef], [[], [], [some (.box [.d (.int .i64 0), .d (.int .i64 0), .d (.str ⟨#[]⟩), .emp])], [some (.box [.d (.int .i64 k), .d (.int .i64 m), .d (.str s), .arr (24, 0) (75, 4) none false])], [], [], [], [], [], [], [], [], [], [], [], [], [], [], [], [], [], [], [], [], [some (.rows (75, 4) xs)], [], []]⟩)
  | 0, i, acc, h0, h, ha => by
    have hi : i = n := by omega
    subst hi
    rw [List.take_of_length_le (by omega)] at ha
    subst ha
    exact l2_end ho k m s acc acc i (by rw [ho.len]; exact hn) (lt_no ho i)
  | q + 1, i, acc, h0, h, ha => by
    obtain ⟨x, hxi⟩ : ∃ x, xs[i.toNat]? = some x := ⟨_, List.getElem?_eq_getElem (by omega)⟩
    obtain ⟨p1, p2⟩ := List.getElem?_eq_some_iff.1 hxi
    have hdr : xs.drop i.toNat = x :: xs.drop (i + 1).toNat := by rw [List.drop_eq_getElem_cons p1, p2, show (i + 1).toNat = i.toNat + 1 by omega]
    obtain ⟨k2, m2, s2, ys, rfl, hcall⟩ := hx x (List.mem_of_getElem? hxi)
    have ha2 : acc ++ ([.agg [.int .i64 k2, .int .i64 m2, .str s2, .lst ys]] : List D) = xs.take (i + 1).toNat := by
      rw [ha, show (i + 1).toNat = i.toNat + 1 by omega, List.take_add_one, hxi]; rfl
    have hc2 : ∀ y ∈ acc ++ [.agg [.int .i64 k2, .int .i64 m2, .str s2, .lst ys]], y.cells.length = 4 := by
      intro y h'
      rw [ha2] at h'
      obtain ⟨k3, m3, s3, y3, rfl, _⟩ := hx y (List.mem_of_mem_take h')
      rfl
    have hlen : ((acc ++ ([.agg [.int .i64 k2, .int .i64 m2, .str s2, .lst ys]] : List D)).length : Int) ≤ 2097152 := by rw [ha2, List.length_take]; omega
    exact l2_step ho k m s xs ys acc _ n i (i + 1) k2 m2 s2 (by rw [ho.len]; exact hn) (lt_yes ho (by omega)) (elt_some ho xs i _ h0 hxi) hcall (ho.app _ _) (fits_small ho hlen (by omega) hc2) (add_of ho (by omega) (by omega)) _ (l2_loop k m s xs n hn hm hx q (i + 1) _ (by omega) (by omega) ha2)
theorem l2All : ∀ n, L2 o n
  | 0 => fun cs h => by simp [Fits] at h
  | n + 1 => fun cs h hs => by
    have ih := l2All n
    obtain ⟨k, m, s, xs, p, rfl, _, hx, e, hall⟩ := term_open h
    injection e with e; subst e
    simp only [SmL, Sm, SmL_iff] at hs
    have hx2 : ∀ x ∈ xs, ∃ k m s ys, x = .agg [.int .i64 k, .int .i64 m, .str s, .lst ys] ∧ o.call 62 [.agg [.d (.int .i64 k), .d (.int .i64 m), .d (.str s), .d (.lst ys)]] [] = some ⟨.agg [.d (.int .i64 k), .d (.int .i64 m), .d (.str s), .d (.lst ys)], [], []⟩ := by
      intro x hm
      obtain ⟨cs2, rfl, f⟩ := hall x hm
      have q := ih cs2 f (by have := hs.2.2.2.1.2 _ hm; simpa only [Sm] using this)
      obtain ⟨k2, m2, s2, ys2, _, rfl, _⟩ := term_open f
      exact ⟨k2, m2, s2, ys2, rfl, q⟩
    exact l262 ho k m s xs xs (l2_loop ho k m s xs xs.length rfl (by omega) hx2 xs.length 0 [] (Int.le_refl _) (by omega) (by simp))
theorem lc_loop (wy mr mt : Int) (ks ps ts : List D) (dn : Bool) (n : Int) (hn : (ks.length : Int) = n) (hm : n ≤ 1048576) (hx : ∀ x ∈ ks, ∃ a b k m s ys u, x = .agg [.str a, .str b, .int .i64 k, .int .i64 m, .str s, .lst ys, .int .i64 u] ∧ o.call 62 [.agg [.d (.int .i64 k), .d (.int .i64 m), .d (.str s), .d (.lst ys)]] [] = some ⟨.agg [.d (.int .i64 k), .d (.int .i64 m), .d (.str s), .d (.lst ys)], [], []⟩) : ∀ (q : Nat) (i : Int) (acc : List D), 0 ≤ i → i + q = n → acc = ks.take i.toNat → o.loop 3100 ⟨[.undef, .ptr (1, 0) 0, .ptr (2, 0) 0, .arr (26, 0) (97, 7) none false, .d (.int .i64 i), .undef, .undef, .undef, .undef, .undef, .undef, .undef, .undef, .undef, .undef, .undef, .undef, .undef, .undef, .undef, .undef, .undef, .undef, .undef, .undef, .undef, .undef, .undef, .undef, .undef, .undef, .undef, .undef, .undef, .undef, .undef, .undef, .undef, .undef, .undef], [[], [some (.box [.d (.int .i64 wy), .d (.int .i64 mr), .d (.int .i64 mt), .d (.lst ks), .d (.lst ps), .d (.lst ts), .d (.bool dn)])], [some (.box [.d (.int .i64 0), .d (.int .i64 0), .d (.int .i64 0), .emp, .emp, .emp, .d (.bool false)])], [], [], [], [], [], [], [], [], [], [], [], [], [], [], [], [], [], [], [], [], [], [], [], [some (.rows (97, 7) acc)], [], [], [], [], [], [], [], [], [], [], [], [], []]⟩ = some (.exit 0, ⟨[.undef, .ptr (1, 0) 0, .ptr (2, 0) 0, .arr (26, 0) (97, 7) none false, .undef, .undef, .undef, .undef, .undef, .undef, .undef, .undef, .undef, .undef, .undef, .undef, .undef, .undef, .undef, .undef, .undef, .undef, .undef, .undef, .undef, .undef, .undef, .undef, .undef, .undef, .undef, .undef, .undef, .undef, .undef, .undef, .undef, .undef, .undef, .undef], [[], [some (.box [.d (.int .i64 wy), .d (.int .i64 mr), .d (.int .i64 mt), .d (.lst ks), .d (.lst ps), .d (.lst ts), .d (.bool dn)])], [some (.box [.d (.int .i64 0), .d (.int .i64 0), .d (.int .i64 0), .emp, .emp, .emp, .d (.bool false)])], [], [], [], [], [], [], [], [], [], [], [], [], [], [], [], [], [], [], [], [], [], [], [], [some (.rows (97, 7) ks)], [], [], [], [], [], [], [], [], [], [], [], [], []]⟩)
  | 0, i, acc, h0, h, ha => by
    have hi : i = n := by omega
    subst hi
    rw [List.take_of_length_le (by omega)] at ha
    subst ha
    exact lc_end ho wy mr mt acc ps ts dn acc i (by rw [ho.len]; exact hn) (lt_no ho i)
  | q + 1, i, acc, h0, h, ha => by
    obtain ⟨x, hxi⟩ : ∃ x, ks[i.toNat]? = some x := ⟨_, List.getElem?_eq_getElem (by omega)⟩
    obtain ⟨p1, p2⟩ := List.getElem?_eq_some_iff.1 hxi
    have hdr : ks.drop i.toNat = x :: ks.drop (i + 1).toNat := by rw [List.drop_eq_getElem_cons p1, p2, show (i + 1).toNat = i.toNat + 1 by omega]
    obtain ⟨a, b, k, m, s, ys, u, rfl, hcall⟩ := hx x (List.mem_of_getElem? hxi)
    have ha2 : acc ++ ([.agg [.str a, .str b, .int .i64 k, .int .i64 m, .str s, .lst ys, .int .i64 u]] : List D) = ks.take (i + 1).toNat := by
      rw [ha, show (i + 1).toNat = i.toNat + 1 by omega, List.take_add_one, hxi]; rfl
    have hc2 : ∀ y ∈ acc ++ [.agg [.str a, .str b, .int .i64 k, .int .i64 m, .str s, .lst ys, .int .i64 u]], y.cells.length = 7 := by
      intro y h'
      rw [ha2] at h'
      obtain ⟨_, _, _, _, _, _, _, rfl, _⟩ := hx y (List.mem_of_mem_take h')
      rfl
    have hlen : ((acc ++ ([.agg [.str a, .str b, .int .i64 k, .int .i64 m, .str s, .lst ys, .int .i64 u]] : List D)).length : Int) ≤ 2097152 := by rw [ha2, List.length_take]; omega
    exact lc_step ho wy mr mt ks ps ts dn ys acc _ n i (i + 1) a b k m s u (by rw [ho.len]; exact hn) (lt_yes ho (by omega)) (elt_some ho ks i _ h0 hxi) hcall (ho.app _ _) (fits_small ho hlen (by omega) hc2) (add_of ho (by omega) (by omega)) _ (lc_loop wy mr mt ks ps ts dn n hn hm hx q (i + 1) _ (by omega) (by omega) ha2)
theorem l14Copy (wy mr mt : Int) (ks ps ts : List D) (dn : Bool) {n : Nat} (hk : Fits Try.prog (n + 1) 27 [.lst ks]) (sk : Sm 1048576 (.lst ks)) (hp : (∀ x ∈ ps, ∃ p, x = .int .i64 p)) (sp : ps.length ≤ 1048576) (ht : (∀ x ∈ ts, ∃ p, x = .int .i64 p)) (st : ts.length ≤ 1048576) : o.call 31 [.agg [.d (.int .i64 wy), .d (.int .i64 mr), .d (.int .i64 mt), .d (.lst ks), .d (.lst ps), .d (.lst ts), .d (.bool dn)]] [] = some ⟨.agg [.d (.int .i64 wy), .d (.int .i64 mr), .d (.int .i64 mt), .d (.lst ks), .d (.lst ps), .d (.lst ts), .d (.bool dn)], [], []⟩ := by
  obtain ⟨ys, q, eq, e_, hx, hall⟩ := fits_lst Try.underlying27 hk
  injection e_ with e_; injection e_ with e_; subst e_
  injection eq with eq; subst eq
  simp only [Sm, SmL_iff] at sk
  have hx2 : ∀ x ∈ ks, ∃ a b k m s ys u, x = .agg [.str a, .str b, .int .i64 k, .int .i64 m, .str s, .lst ys, .int .i64 u] ∧ o.call 62 [.agg [.d (.int .i64 k), .d (.int .i64 m), .d (.str s), .d (.lst ys)]] [] = some ⟨.agg [.d (.int .i64 k), .d (.int .i64 m), .d (.str s), .d (.lst ys)], [], []⟩ := by
    intro x hm
    obtain ⟨f1, f2⟩ := hall x hm
    rw [show aggT Try.prog 97 = true by unfold aggT; rw [Try.underlying97]] at f2
    obtain ⟨a, b, k, m, s, ys, u, zs, p, _, g0, gf, _⟩ := kid_open ho f2 f1 (Sm_cells (sk.2 x hm))
    have := sk.2 x hm
    rw [g0] at this
    simp only [Sm, SmL] at this
    exact ⟨a, b, k, m, s, ys, u, g0, l2All ho p _ gf (by simp only [SmL, Sm]; simp [this])⟩
  exact lc31 ho wy mr mt ks ps ts dn ks (lc_loop ho wy mr mt ks ps ts dn ks.length rfl (by omega) hx2 ks.length 0 [] (Int.le_refl _) (by omega) (by simp)) (ints_fit ho sp hp) (ints_fit ho st ht)
end T1
