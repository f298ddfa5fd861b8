import Derived.Test.YtdkaahhcejipjaaOD8
import Derived.Test.YtdkaahhcejipjaaProg
import Derived.KernelRfl
set_option linter.unusedVariables false
set_option linter.unusedSimpArgs false
set_option linter.unnecessarySimpa false
set_option linter.unusedSectionVars false
open Go Go.Vi Go.Proofs
namespace T1
set_option maxRecDepth 100000
set_option maxHeartbeats 4000000
set_option linter.unusedVariables false
set_option linter.constructorNameAsVariable false
variable {o : Ora} (ho : IsDen vfun vloop o)
/-- What terms weigh, one behind the other; more than 300 is 301. -/
def wsum (f : D → Int) : Int → List D → Int
  | acc, [] => acc
  | acc, x :: xs => if 300 < acc + f x then 301 else wsum f (acc + f x) xs
def kidsOf : D → List D
  | .agg [_, _, _, .lst xs] => xs
  | _ => []
/-- What a term weighs that is no deeper than told. -/
def wt (o : Ora) : Nat → D → Int
  | 0, _ => 301
  | e + 1, t => match shp o t.cells with
    | true => wsum (wt o e) 1 (kidsOf t)
    | false => 301
theorem wsum_ge {f : D → Int} (hf : ∀ x, 1 ≤ f x) : ∀ (xs : List D) (acc : Int), acc ≤ 300 → acc ≤ wsum f acc xs ∧ wsum f acc xs ≤ 301
  | [], acc, h => by simp only [wsum]; omega
  | x :: xs, acc, h => by
    have := hf x
    simp only [wsum]
    split
    · omega
    · have := wsum_ge hf xs (acc + f x) (by omega)
      omega
theorem wt_ge (o : Ora) : ∀ (e : Nat) (t : D), 1 ≤ wt o e t ∧ wt o e t ≤ 301
  | 0, t => by simp [wt]
  | e + 1, t => by
    simp only [wt]
    split
    · exact wsum_ge (fun x => (wt_ge o e x).1) _ 1 (by omega)
    · omega
/-- What is left behind terms that weigh; below 0: too much. -/
def lsum (f : D → Int) : Int → List D → Int
  | l, [] => l
  | l, x :: xs => if l < 0 then l else lsum f (if f x ≤ l then l - f x else -1) xs
theorem lsum_neg {f : D → Int} : ∀ xs : List D, lsum f (-1) xs = -1
  | [] => rfl
  | x :: xs => by simp [lsum]
theorem lsum_wsum {f : D → Int} (hf : ∀ x, 1 ≤ f x) {L : Int} (hL : L ≤ 300) : ∀ (xs : List D) (acc : Int), acc ≤ L → (wsum f acc xs ≤ L → lsum f (L - acc) xs = L - wsum f acc xs) ∧ (L < wsum f acc xs → lsum f (L - acc) xs = -1)
  | [], acc, h => ⟨fun _ => rfl, fun q => by simp only [wsum] at q; omega⟩
  | x :: xs, acc, h => by
    have h1 := hf x
    simp only [lsum, wsum]
    rw [if_neg (show ¬ (L - acc < 0) by omega)]
    by_cases hx : f x ≤ L - acc
    · rw [if_pos hx, if_neg (show ¬ (300 < acc + f x) by omega), show L - acc - f x = L - (acc + f x) by omega]
      exact lsum_wsum hf hL xs (acc + f x) (by omega)
    · rw [if_neg hx, lsum_neg]
      refine ⟨fun q => ?_, fun _ => rfl⟩
      split at q
      · omega
      · have := (wsum_ge hf xs (acc + f x) (by omega)).1
        omega
theorem term_open {n : Nat} {cs : List D} (h : Fits Try.prog n 75 cs) : ∃ k m s xs p, cs = [.int .i64 k, .int .i64 m, .str s, .lst xs] ∧ s.size ≤ maxLen ∧ xs.length ≤ maxLen ∧ n = p + 1 ∧ ∀ x ∈ xs, ∃ cs2, x = .agg cs2 ∧ Fits Try.prog p 75 cs2 := by
  cases n with
  | zero => simp [Fits] at h
  | succ n =>
    obtain ⟨c0, c1, c2, c3, rfl, h0, h1, h2, h3⟩ := fits75 h
    obtain ⟨k, e_, _⟩ := fits_int Try.underlying3 h0; injection e_ with e_; subst e_
    obtain ⟨m, e_, _⟩ := fits_int Try.underlying3 h1; injection e_ with e_; subst e_
    obtain ⟨s, e_, hs⟩ := fits_str Try.underlying9 h2; injection e_ with e_; subst e_
    obtain ⟨xs, q, eq, e_, hx, hall⟩ := fits_lst Try.underlying73 h3; injection e_ with e_; subst e_
    refine ⟨k, m, s, xs, n, rfl, hs, hx, rfl, fun x hm => ?_⟩
    obtain ⟨f1, f2⟩ := hall x hm
    rw [show aggT Try.prog 75 = true by unfold aggT; rw [Try.underlying75]] at f2
    exact ⟨x.cells, many_agg f2, by rw [eq]; exact fits_mono _ _ _ f1⟩
include ho
theorem gt_of {a b : Int} : o.cmp .gtr a b = decide (a > b) := by rw [ho.cmp]; simp [cmpI]
theorem lt_of {a b : Int} : o.cmp .lss a b = decide (a < b) := by rw [ho.cmp]; simp [cmpI]
theorem ge_of {a b : Int} : o.cmp .geq a b = decide (a ≥ b) := by rw [ho.cmp]; simp [cmpI]
theorem le_of {a b : Int} : o.cmp .leq a b = decide (a ≤ b) := by rw [ho.cmp]; simp [cmpI]
theorem eq_of {a b : Int} : o.cmp .eql a b = decide (a = b) := by rw [ho.cmp]; simp only [cmpI]; by_cases h : a = b <;> simp [h]
theorem ne_of {a b : Int} : o.cmp .neq a b = decide (a ≠ b) := by rw [ho.cmp]; simp only [cmpI]; by_cases h : a = b <;> simp [h]
theorem add_of {a b : Int} (h0 : 0 ≤ a + b) (h1 : a + b ≤ 9223372036854775807) : o.ar .add .i64 a b = a + b := by rw [ho.ar]; simp only [arI]; exact wrap_id h0 h1
theorem sub_of {a b : Int} (h0 : 0 ≤ a - b) (h1 : a - b ≤ 9223372036854775807) : o.ar .sub .i64 a b = a - b := by rw [ho.ar]; simp only [arI]; exact wrap_id h0 h1
theorem me_loop (e : Nat) (xs : List D) (n d : Int) (hn : (xs.length : Int) = n) (hm : n ≤ 9223372036854775807) (hd0 : 0 ≤ d) (hd1 : d ≤ 8) (hx : ∀ x ∈ xs, ∃ k m s ys, x = .agg [.int .i64 k, .int .i64 m, .str s, .lst ys] ∧ o.call 105 [.agg [.d (.int .i64 k), .d (.int .i64 m), .d (.str s), .d (.lst ys)], .d (.int .i64 (d + 1))] [] = some ⟨.d (.int .i64 (wt o e x)), [], []⟩) : ∀ (q : Nat) (i acc : Int), 0 ≤ i → i + q = n → 0 ≤ acc → acc ≤ 300 →
    (wsum (wt o e) acc (xs.drop i.toNat) ≤ 300 ∧ o.loop 10500 ⟨[.undef, .d (.int .i64 d), .undef, .undef, .undef, .d (.int .i64 acc), .undef, .undef, .undef, .undef, .undef, .undef, .undef, .undef, .undef, .undef, .d (.lst xs), .d (.int .i64 n), .d (.int .i64 i), .undef, .undef, .undef, .undef, .undef, .undef, .undef, .undef, .undef, .undef, .undef, .undef, .undef], [[], [], [], [], [], [], [], [], [], [], [], [], [], [], [], [], [], [], [], [], [], [], [], [], [], [], [], [], [], [], [], []]⟩ = some (.exit 0, ⟨[.undef, .undef, .undef, .undef, .undef, .d (.int .i64 (wsum (wt o e) acc (xs.drop i.toNat))), .undef, .undef, .undef, .undef, .undef, .undef, .undef, .undef, .undef, .undef, .undef, .undef, .undef, .undef, .undef, .undef, .undef, .undef, .undef, .undef, .undef, .undef, .undef, .undef, .undef, .undef], [[], [], [], [], [], [], [], [], [], [], [], [], [], [], [], [], [], [], [], [], [], [], [], [], [], [], [], [], [], [], [], []]⟩)) ∨ (wsum (wt o e) acc (xs.drop i.toNat) = 301 ∧ ∃ w, o.loop 10500 ⟨[.undef, .d (.int .i64 d), .undef, .undef, .undef, .d (.int .i64 acc), .undef, .undef, .undef, .undef, .undef, .undef, .undef, .undef, .undef, .undef, .d (.lst xs), .d (.int .i64 n), .d (.int .i64 i), .undef, .undef, .undef, .undef, .undef, .undef, .undef, .undef, .undef, .undef, .undef, .undef, .undef], [[], [], [], [], [], [], [], [], [], [], [], [], [], [], [], [], [], [], [], [], [], [], [], [], [], [], [], [], [], [], [], []]⟩ = some (.ret, ⟨[.undef, .undef, .undef, .undef, .d (.int .i64 301), .d (.int .i64 w), .undef, .undef, .undef, .undef, .undef, .undef, .undef, .undef, .undef, .undef, .undef, .undef, .undef, .undef, .undef, .undef, .undef, .undef, .undef, .undef, .undef, .undef, .undef, .undef, .undef, .undef], [[], [], [], [], [], [], [], [], [], [], [], [], [], [], [], [], [], [], [], [], [], [], [], [], [], [], [], [], [], [], [], []]⟩))
  | 0, i, acc, h0, h, g0, g1 => by
    have hi : i = n := by omega
    subst hi
    rw [List.drop_eq_nil_of_le (by omega)]
    exact .inl ⟨g1, me_end ho xs i d acc (lt_no ho i)⟩
  | q + 1, i, acc, h0, h, g0, g1 => by
    obtain ⟨x, hxi⟩ : ∃ x, xs[i.toNat]? = some x := ⟨_, List.getElem?_eq_getElem (by omega)⟩
    obtain ⟨p1, p2⟩ := List.getElem?_eq_some_iff.1 hxi
    have hdr : xs.drop i.toNat = x :: xs.drop (i + 1).toNat := by rw [List.drop_eq_getElem_cons p1, p2, show (i + 1).toNat = i.toNat + 1 by omega]
    obtain ⟨k, m, s, ys, ex, hc⟩ := hx x (List.mem_of_getElem? hxi)
    have hw := wt_ge o e x
    have st := me_step ho xs n i (i + 1) d (d + 1) acc (acc + wt o e x) (wt o e x) k m s ys (lt_yes ho (by omega)) (elt_some ho xs i _ h0 (by rw [hxi, ex])) (add_of ho (by omega) (by omega)) hc (add_of ho (by omega) (by omega)) (add_of ho (by omega) (by omega))
    rw [hdr]
    simp only [wsum]
    rw [gt_of ho] at st
    by_cases hb : 300 < acc + wt o e x
    · rw [if_pos hb]
      rw [show decide (acc + wt o e x > 300) = true by simpa using hb] at st
      exact .inr ⟨rfl, _, st _ rfl⟩
    · rw [if_neg hb]
      rw [show decide (acc + wt o e x > 300) = false by simpa using hb] at st
      rcases me_loop e xs n d hn hm hd0 hd1 hx q (i + 1) (acc + wt o e x) (by omega) (by omega) (by omega) (by omega) with ⟨i1, i2⟩ | ⟨i1, w, i2⟩
      · exact .inl ⟨i1, st _ i2⟩
      · exact .inr ⟨i1, w, st _ i2⟩
theorem me_all : ∀ (e : Nat), e ≤ 8 → ∀ (n : Nat) (cs : List D), Fits Try.prog n 75 cs → ∀ d : Int, d = 9 - e → o.call 105 [.agg (cs.map .d), .d (.int .i64 d)] [] = some ⟨.d (.int .i64 (wt o e (.agg cs))), [], []⟩
  | 0, _, n, cs, h, d, hd => by
    obtain ⟨k, m, s, xs, p, rfl, hs, hx, rfl, hall⟩ := term_open h
    exact me_hi ho k m s xs d (by rw [gt_of ho]; simp; omega)
  | e + 1, he, n, cs, h, d, hd => by
    obtain ⟨k, m, s, xs, p, rfl, hs, hx, rfl, hall⟩ := term_open h
    have h8 : o.cmp .gtr d 8 = false := by rw [gt_of ho]; simp; omega
    have hsh := (shapes ho k m s xs hs).2
    have hw : wt o (e + 1) (.agg [.int .i64 k, .int .i64 m, .str s, .lst xs]) = match shp o [.int .i64 k, .int .i64 m, .str s, .lst xs] with | true => wsum (wt o e) 1 xs | false => 301 := rfl
    rw [hw]
    generalize shp o [.int .i64 k, .int .i64 m, .str s, .lst xs] = b at hsh
    cases b with
    | false => exact me_bad ho k m s xs d h8 hsh
    | true =>
      have hx2 : ∀ x ∈ xs, ∃ k m s ys, x = .agg [.int .i64 k, .int .i64 m, .str s, .lst ys] ∧ o.call 105 [.agg [.d (.int .i64 k), .d (.int .i64 m), .d (.str s), .d (.lst ys)], .d (.int .i64 (d + 1))] [] = some ⟨.d (.int .i64 (wt o e x)), [], []⟩ := by
        intro x hm
        obtain ⟨cs2, rfl, hf⟩ := hall x hm
        have q := me_all e (by omega) p cs2 hf (d + 1) (by omega)
        obtain ⟨k2, m2, s2, ys2, p2, rfl, _⟩ := term_open hf
        exact ⟨k2, m2, s2, ys2, rfl, q⟩
      have hlen : ((xs.length : Nat) : Int) ≤ 9223372036854775807 := by unfold maxLen at hx; omega
      rcases me_loop ho e xs xs.length d rfl hlen (by omega) (by omega) hx2 xs.length 0 1 (Int.le_refl _) (by omega) (by omega) (by omega) with ⟨i1, i2⟩ | ⟨i1, w, i2⟩
      · exact me_ok ho k m s xs d _ _ h8 hsh (ho.len xs) i2
      · simp only [Int.toNat_zero, List.drop_zero] at i1
        simp only [i1]
        exact me_ret ho k m s xs d _ w h8 hsh (ho.len xs) i2
theorem lo_loop (e : Nat) (k m : Int) (s : ByteArray) (xs : List D) (n d : Int) (hn : (xs.length : Int) = n) (hm : n ≤ 9223372036854775807) (hd0 : 1 ≤ d) (hd1 : d ≤ 9) (hx : ∀ x ∈ xs, ∃ k m s ys, x = .agg [.int .i64 k, .int .i64 m, .str s, .lst ys] ∧ ∀ L : Int, 0 ≤ L → L ≤ 300 → o.call 102 [.agg [.d (.int .i64 k), .d (.int .i64 m), .d (.str s), .d (.lst ys)], .d (.int .i64 (d - 1)), .d (.int .i64 L)] [] = some ⟨.d (.int .i64 (if wt o e x ≤ L then L - wt o e x else -1)), [], []⟩) : ∀ (q : Nat) (i l : Int), 0 ≤ i → i + q = n → l ≤ 300 →
    o.loop 10200 ⟨[.undef, .d (.int .i64 d), .d (.int .i64 l), .ptr (3, 0) 0, .undef, .undef, .undef, .d (.int .i64 i), .undef, .undef, .undef, .undef, .undef, .undef, .undef, .undef, .undef, .undef, .undef, .undef, .undef, .undef, .undef, .undef, .undef, .undef, .undef, .undef, .undef, .undef, .undef, .undef, .undef, .undef, .undef, .undef, .undef, .undef, .undef, .undef, .undef, .undef], [[], [], [], [some (.box [.d (.int .i64 k), .d (.int .i64 m), .d (.str s), .d (.lst xs)])], [], [], [], [], [], [], [], [], [], [], [], [], [], [], [], [], [], [], [], [], [], [], [], [], [], [], [], [], [], [], [], [], [], [], [], [], [], []]⟩ = some (.exit 0, ⟨[.undef, .undef, .d (.int .i64 (lsum (wt o e) l (xs.drop i.toNat))), .undef, .undef, .undef, .undef, .undef, .undef, .undef, .undef, .undef, .undef, .undef, .undef, .undef, .undef, .undef, .undef, .undef, .undef, .undef, .undef, .undef, .undef, .undef, .undef, .undef, .undef, .undef, .undef, .undef, .undef, .undef, .undef, .undef, .undef, .undef, .undef, .undef, .undef, .undef], [[], [], [], [], [], [], [], [], [], [], [], [], [], [], [], [], [], [], [], [], [], [], [], [], [], [], [], [], [], [], [], [], [], [], [], [], [], [], [], [], [], []]⟩)
  | 0, i, l, h0, h, g1 => by
    have hi : i = n := by omega
    subst hi
    rw [List.drop_eq_nil_of_le (by omega)]
    exact lo_end ho k m s xs i d l (by rw [ho.len]; exact hn) (lt_no ho i)
  | q + 1, i, l, h0, h, g1 => by
    obtain ⟨x, hxi⟩ : ∃ x, xs[i.toNat]? = some x := ⟨_, List.getElem?_eq_getElem (by omega)⟩
    obtain ⟨p1, p2⟩ := List.getElem?_eq_some_iff.1 hxi
    have hdr : xs.drop i.toNat = x :: xs.drop (i + 1).toNat := by rw [List.drop_eq_getElem_cons p1, p2, show (i + 1).toNat = i.toNat + 1 by omega]
    obtain ⟨k2, m2, s2, ys, ex, hc⟩ := hx x (List.mem_of_getElem? hxi)
    have hw := wt_ge o e x
    rw [hdr]
    simp only [lsum]
    by_cases hl : l < 0
    · rw [if_pos hl]
      exact lo0_step ho k m s xs n i d l (by rw [ho.len]; exact hn) (lt_yes ho (by omega)) (by rw [ge_of ho]; simpa using hl) _ rfl
    · rw [if_neg hl]
      have st := lo_step ho k m s xs n i (i + 1) d (d - 1) l (if wt o e x ≤ l then l - wt o e x else -1) k2 m2 s2 ys (by rw [ho.len]; exact hn) (lt_yes ho (by omega)) (elt_some ho xs i _ h0 (by rw [hxi, ex])) (sub_of ho (by omega) (by omega)) (hc l (by omega) g1) (add_of ho (by omega) (by omega))
      rw [ge_of ho, show decide (l ≥ 0) = true by simp; omega] at st
      refine st _ (lo_loop e k m s xs n d hn hm hd0 hd1 hx q (i + 1) _ (by omega) (by omega) ?_)
      split <;> omega
theorem lo_all : ∀ (e : Nat), e ≤ 8 → ∀ (n : Nat) (cs : List D), Fits Try.prog n 75 cs → ∀ d : Int, d = e → ∀ L : Int, 0 ≤ L → L ≤ 300 → o.call 102 [.agg (cs.map .d), .d (.int .i64 d), .d (.int .i64 L)] [] = some ⟨.d (.int .i64 (if wt o e (.agg cs) ≤ L then L - wt o e (.agg cs) else -1)), [], []⟩
  | 0, _, n, cs, h, d, hd, L, hL0, hL1 => by
    obtain ⟨k, m, s, xs, p, rfl, hs, hx, rfl, hall⟩ := term_open h
    rw [if_neg (by simp only [wt]; omega)]
    exact lo_d ho k m s xs d L (by rw [lt_of ho]; simp; omega)
  | e + 1, he, n, cs, h, d, hd, L, hL0, hL1 => by
    have hge := wt_ge o (e + 1) (.agg cs)
    obtain ⟨k, m, s, xs, p, rfl, hs, hx, rfl, hall⟩ := term_open h
    have h1 : o.cmp .lss d 1 = false := by rw [lt_of ho]; simp; omega
    by_cases hL : L < 1
    · rw [if_neg (by omega)]
      exact lo_l ho k m s xs d L h1 (by rw [lt_of ho]; simpa using hL)
    have h2 : o.cmp .lss L 1 = false := by rw [lt_of ho]; simpa using hL
    have hsh := (shapes ho k m s xs hs).1
    have hw : wt o (e + 1) (.agg [.int .i64 k, .int .i64 m, .str s, .lst xs]) = match shp o [.int .i64 k, .int .i64 m, .str s, .lst xs] with | true => wsum (wt o e) 1 xs | false => 301 := rfl
    rw [hw]
    generalize shp o [.int .i64 k, .int .i64 m, .str s, .lst xs] = b at hsh
    cases b with
    | false =>
      simp only
      rw [if_neg (by omega)]
      exact lo_bad ho k m s xs d L h1 h2 hsh
    | true =>
      simp only
      have hx2 : ∀ x ∈ xs, ∃ k m s ys, x = .agg [.int .i64 k, .int .i64 m, .str s, .lst ys] ∧ ∀ L : Int, 0 ≤ L → L ≤ 300 → o.call 102 [.agg [.d (.int .i64 k), .d (.int .i64 m), .d (.str s), .d (.lst ys)], .d (.int .i64 (d - 1)), .d (.int .i64 L)] [] = some ⟨.d (.int .i64 (if wt o e x ≤ L then L - wt o e x else -1)), [], []⟩ := by
        intro x hm
        obtain ⟨cs2, rfl, hf⟩ := hall x hm
        have q := fun L a b => lo_all e (by omega) p cs2 hf (d - 1) (by omega) L a b
        obtain ⟨k2, m2, s2, ys2, p2, rfl, _⟩ := term_open hf
        exact ⟨k2, m2, s2, ys2, rfl, q⟩
      have hlen : ((xs.length : Nat) : Int) ≤ 9223372036854775807 := by unfold maxLen at hx; omega
      have l1 := lo_loop ho e k m s xs xs.length d rfl hlen (by omega) (by omega) hx2 xs.length 0 (L - 1) (Int.le_refl _) (by omega) (by omega)
      simp only [Int.toNat_zero, List.drop_zero] at l1
      have lw := lsum_wsum (fun x => (wt_ge o e x).1) hL1 xs 1 (by omega)
      have fin := fun r hr => lo_ok ho k m s xs d L (L - 1) r h1 h2 hsh (sub_of ho (by omega) (by omega)) hr
      by_cases hq : wsum (wt o e) 1 xs ≤ L
      · rw [if_pos hq]
        rw [lw.1 hq] at l1
        exact fin _ l1
      · rw [if_neg hq]
        rw [lw.2 (by omega)] at l1
        exact fin _ l1
theorem terms {n : Nat} {cs : List D} (h : Fits Try.prog n 75 cs) : ∃ b : Bool, o.call 86 [.agg (cs.map .d)] [] = some ⟨.d (.bool b), [], []⟩ ∧ o.call 90 [.agg (cs.map .d)] [] = some ⟨.d (.bool b), [], []⟩ := by
  have h1 := lo_all ho 8 (by omega) n cs h 8 rfl 300 (by omega) (by omega)
  have h2 := me_all ho 8 (by omega) n cs h 1 (by omega)
  have hge := wt_ge o 8 (.agg cs)
  obtain ⟨k, m, s, xs, p, rfl, _⟩ := term_open h
  refine ⟨_, tk86 ho k m s xs _ h1, ?_⟩
  have e := tk90 ho k m s xs _ h2
  simp only [List.map_cons, List.map_nil]
  rw [e]
  have : o.cmp .leq (wt o 8 (.agg [.int .i64 k, .int .i64 m, .str s, .lst xs])) 300 = o.cmp .geq (if wt o 8 (.agg [.int .i64 k, .int .i64 m, .str s, .lst xs]) ≤ 300 then 300 - wt o 8 (.agg [.int .i64 k, .int .i64 m, .str s, .lst xs]) else -1) 0 := by
    rw [le_of ho, ge_of ho]
    split
    · rename_i hq; simp [hq]
    · rename_i hq; simp [hq]
  rw [this]
theorem zeros {n : Nat} {cs : List D} (h : Fits Try.prog n 75 cs) : ∃ b : Bool, o.call 85 [.agg (cs.map .d)] [] = some ⟨.d (.bool b), [], []⟩ ∧ o.call 91 [.agg (cs.map .d)] [] = some ⟨.d (.bool b), [], []⟩ := by
  obtain ⟨k, m, s, xs, p, rfl, _⟩ := term_open h
  refine ⟨_, ze85 ho k m s xs _ (ho.len xs), ?_⟩
  simp only [List.map_cons, List.map_nil]
  have h0 : o.len [] = 0 := by rw [ho.len]; rfl
  by_cases hx : ((xs.length : Nat) : Int) = 0
  · have e := ze91 ho k m s xs _ (sm106 ho k m s xs true (ef_yes ho xs _ (ho.len xs) h0 (by rw [ne_of ho]; simpa using hx) (by rw [hx]; exact lt_no ho 0)))
    rw [e, show o.cmp .eql ((xs.length : Nat) : Int) 0 = true by rw [eq_of ho]; simpa using hx]
  · have e := ze91 ho k m s xs _ (sm106 ho k m s xs false (ef_no ho xs _ (ho.len xs) h0 (by rw [ne_of ho]; simpa using hx)))
    rw [e, show o.cmp .eql ((xs.length : Nat) : Int) 0 = false by rw [eq_of ho]; simpa using hx]
theorem kids {n : Nat} {cs : List D} (h : Fits Try.prog n 97 cs) : ∃ b : Bool, o.call 63 [.agg (cs.map .d)] [] = some ⟨.d (.bool b), [], []⟩ ∧ o.call 67 [.agg (cs.map .d)] [] = some ⟨.d (.bool b), [], []⟩ := by
  cases n with
  | zero => simp [Fits] at h
  | succ n =>
    obtain ⟨c0, c1, c2, c3, c4, c5, c6, rfl, h0, h1, h2, h3⟩ := fits97 h
    obtain ⟨a, e_, ha⟩ := fits_str Try.underlying9 h0; injection e_ with e_; subst e_
    obtain ⟨b, e_, hb⟩ := fits_str Try.underlying9 h1; injection e_ with e_; subst e_
    obtain ⟨u, e_, _⟩ := fits_int Try.underlying3 h3; injection e_ with e_; subst e_
    obtain ⟨pt, t1, t2⟩ := terms ho h2
    obtain ⟨pz, z1, z2⟩ := zeros ho h2
    obtain ⟨pa, a1, a2⟩ := atoms ho a ha
    obtain ⟨pb, b1, b2⟩ := atoms ho b hb
    obtain ⟨k, m, s, xs, p, e_, _⟩ := term_open h2
    simp only [List.cons.injEq, and_true] at e_
    obtain ⟨rfl, rfl, rfl, rfl⟩ := e_
    refine ⟨_, ki63 ho a b k m s xs u pa pb pz pt a1 b1 z1 t1, ?_⟩
    have e := ki67 ho a b k m s xs u pa pb pz pt a2 b2 z2 t2
    simp only [List.map_cons, List.map_nil]
    rw [e, ge_of ho, eq_of ho]
    by_cases hu : u ≥ 0
    · have : u ≠ -1 := by omega
      cases pa <;> simp [hu, this]
    · by_cases hu2 : u = -1 <;> cases pa <;> cases pb <;> cases pt <;> simp [hu, hu2]
end T1
