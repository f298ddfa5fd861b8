import Derived.Test.YtdkaahhcejipjaaOD12
import Derived.Test.YtdkaahhcejipjaaProg
import Derived.KernelRfl
set_option linter.unusedVariables false
set_option linter.unusedSimpArgs false
set_option linter.unnecessarySimpa false
set_option linter.unusedSectionVars false
open Go Go.Vi Go.Proofs
namespace T1
set_option maxRecDepth 100000
set_option maxHeartbeats 4000000
set_option linter.unusedVariables false
set_option linter.constructorNameAsVariable false
variable {o : Ora} (ho : IsDen vfun vloop o)
/-- The times that count. -/
def flt (q : Int) (ts : List D) : List D := ts.filter fun x => match x with
  | .int _ p => decide (p > q)
  | _ => false
theorem flt_len (q : Int) (ts : List D) : (flt q ts).length ≤ ts.length := List.length_filter_le _ _
theorem flt_mem {q : Int} {ts : List D} {x : D} (h : x ∈ flt q ts) : x ∈ ts := (List.mem_filter.1 h).1
include ho
theorem hi_loop (wy mr mt : Int) (ks ps ts : List D) (dn : Bool) (ys : List D) (now n q : Int) (hq : o.ar .sub .i64 now mt = q) (hn : (ts.length : Int) = n) (hm : n ≤ 1048576) (hx : (∀ x ∈ ts, ∃ p, x = .int .i64 p)) : ∀ (r : Nat) (i : Int) (acc : List D), 0 ≤ i → i + r = n → (acc.length : Int) ≤ i → (∀ x ∈ acc, x.cells.length = 1) → o.loop 1200 ⟨[.undef, .d (.int .i64 now), .ptr (2, 0) 0, .undef, .ptr (4, 0) 0, .undef, .ptr (6, 0) 0, .arr (55, 0) (3, 1) none false, .undef, .undef, .undef, .undef, .undef, .undef, .undef, .undef, .undef, .undef, .undef, .undef, .undef, .undef, .undef, .undef, .undef, .undef, .undef, .undef, .undef, .undef, .undef, .undef, .undef, .undef, .undef, .undef, .undef, .undef, .undef, .undef, .d (.lst ts), .d (.int .i64 n), .d (.int .i64 i), .undef, .undef, .undef, .undef, .undef, .undef, .undef, .undef, .undef, .undef, .undef, .undef, .undef, .undef, .undef, .undef, .undef, .undef, .undef, .undef, .undef, .undef, .undef, .undef, .undef, .undef], [[], [], [some (.box [.d (.int .i64 wy), .d (.int .i64 mr), .d (.int .i64 mt), .d (.lst ks), .d (.lst ps), .d (.lst ts), .d (.bool dn)])], [], [some (.box [.d (.int .i64 0), .d (.int .i64 0), .d (.int .i64 0), .emp, .emp, .emp, .d (.bool false)])], [], [some (.box [.d (.int .i64 wy), .d (.int .i64 mr), .d (.int .i64 mt), .arr (11, 0) (97, 7) none false, .arr (11, 1) (3, 1) none false, .arr (11, 2) (3, 1) none false, .d (.bool dn)])], [], [], [], [], [some (.orows (97, 7) ys), some (.rows (3, 1) ps), some (.rows (3, 1) ts)], [], [], [], [], [], [], [], [], [], [], [], [], [], [], [], [], [], [], [], [], [], [], [], [], [], [], [], [], [], [], [], [], [], [], [], [], [], [], [], [], [], [], [], [some (.rows (3, 1) acc)], [], [], [], [], [], [], [], [], [], [], [], [], []]⟩ = some (.exit 0, ⟨[.undef, .d (.int .i64 now), .ptr (2, 0) 0, .undef, .ptr (4, 0) 0, .undef, .ptr (6, 0) 0, .arr (55, 0) (3, 1) none false, .undef, .undef, .undef, .undef, .undef, .undef, .undef, .undef, .undef, .undef, .undef, .undef, .undef, .undef, .undef, .undef, .undef, .undef, .undef, .undef, .undef, .undef, .undef, .undef, .undef, .undef, .undef, .undef, .undef, .undef, .undef, .undef, .undef, .undef, .undef, .undef, .undef, .undef, .undef, .undef, .undef, .undef, .undef, .undef, .undef, .undef, .undef, .undef, .undef, .undef, .undef, .undef, .undef, .undef, .undef, .undef, .undef, .undef, .undef, .undef, .undef], [[], [], [some (.box [.d (.int .i64 wy), .d (.int .i64 mr), .d (.int .i64 mt), .d (.lst ks), .d (.lst ps), .d (.lst ts), .d (.bool dn)])], [], [some (.box [.d (.int .i64 0), .d (.int .i64 0), .d (.int .i64 0), .emp, .emp, .emp, .d (.bool false)])], [], [some (.box [.d (.int .i64 wy), .d (.int .i64 mr), .d (.int .i64 mt), .arr (11, 0) (97, 7) none false, .arr (11, 1) (3, 1) none false, .arr (11, 2) (3, 1) none false, .d (.bool dn)])], [], [], [], [], [some (.orows (97, 7) ys), some (.rows (3, 1) ps), some (.rows (3, 1) ts)], [], [], [], [], [], [], [], [], [], [], [], [], [], [], [], [], [], [], [], [], [], [], [], [], [], [], [], [], [], [], [], [], [], [], [], [], [], [], [], [], [], [], [], [some (.rows (3, 1) (acc ++ flt q (ts.drop i.toNat)))], [], [], [], [], [], [], [], [], [], [], [], [], []]⟩)
  | 0, i, acc, h0, h, ha, hc => by
    have hi : i = n := by omega
    subst hi
    rw [List.drop_eq_nil_of_le (by omega), show flt q [] = [] from rfl, List.append_nil]
    exact hi_end ho wy mr mt ks ps ts dn ys acc now i (lt_no ho i)
  | r + 1, i, acc, h0, h, ha, hc => by
    obtain ⟨x, hxi⟩ : ∃ x, ts[i.toNat]? = some x := ⟨_, List.getElem?_eq_getElem (by omega)⟩
    obtain ⟨p1, p2⟩ := List.getElem?_eq_some_iff.1 hxi
    have hdr : ts.drop i.toNat = x :: ts.drop (i + 1).toNat := by rw [List.drop_eq_getElem_cons p1, p2, show (i + 1).toNat = i.toNat + 1 by omega]
    obtain ⟨p, rfl⟩ := hx x (List.mem_of_getElem? hxi)
    have hc2 : ∀ x ∈ acc ++ [.int .i64 p], x.cells.length = 1 := by
      intro y h'
      rcases List.mem_append.1 h' with h' | h'
      · exact hc y h'
      · rw [List.mem_singleton.1 h']; rfl
    have st := hi_step ho wy mr mt ks ps ts dn ys acc _ now n i (i + 1) p q (lt_yes ho (by omega)) (elt_some ho ts i _ h0 hxi) hq (ho.app _ _) (fits_small ho (by simp; omega) (by omega) hc2) (add_of ho (by omega) (by omega))
    rw [gt_of ho] at st
    rw [hdr]
    by_cases hp : p > q
    · rw [show decide (p > q) = true by simpa using hp] at st
      have ih := hi_loop wy mr mt ks ps ts dn ys now n q hq hn hm hx r (i + 1) (acc ++ [.int .i64 p]) (by omega) (by omega) (by simp; omega) hc2
      rw [show flt q (D.int .i64 p :: ts.drop (i + 1).toNat) = .int .i64 p :: flt q (ts.drop (i + 1).toNat) by simp [flt, hp]]
      rw [List.append_assoc] at ih
      exact st _ ih
    · rw [show decide (p > q) = false by simpa using hp] at st
      have ih := hi_loop wy mr mt ks ps ts dn ys now n q hq hn hm hx r (i + 1) acc (by omega) (by omega) (by omega) hc
      rw [show flt q (D.int .i64 p :: ts.drop (i + 1).toNat) = flt q (ts.drop (i + 1).toNat) by simp [flt, hp]]
      exact st _ ih
theorem lh_loop (wy mr mt : Int) (ks ps ts : List D) (dn : Bool)  (now n q : Int) (hq : o.ar .sub .i64 now mt = q) (hn : (ts.length : Int) = n) (hm : n ≤ 1048576) (hx : (∀ x ∈ ts, ∃ p, x = .int .i64 p)) : ∀ (r : Nat) (i : Int) (acc : List D), 0 ≤ i → i + r = n → (acc.length : Int) ≤ i → (∀ x ∈ acc, x.cells.length = 1) → o.loop 3200 ⟨[.undef, .d (.int .i64 now), .ptr (2, 0) 0, .undef, .undef, .undef, .arr (33, 0) (3, 1) none false, .d (.int .i64 i), .undef, .undef, .undef, .undef, .undef, .undef, .undef, .undef, .undef, .undef, .undef, .undef, .undef, .undef, .undef, .undef, .undef, .undef, .undef, .undef, .undef, .undef, .undef, .undef, .undef, .undef, .undef, .undef, .undef, .undef, .undef, .undef, .undef, .undef, .undef, .undef], [[], [], [some (.box [.d (.int .i64 wy), .d (.int .i64 mr), .d (.int .i64 mt), .d (.lst ks), .d (.lst ps), .d (.lst ts), .d (.bool dn)])], [], [], [], [], [], [], [], [], [], [], [], [], [], [], [], [], [], [], [], [], [], [], [], [], [], [], [], [], [], [], [some (.rows (3, 1) acc)], [], [], [], [], [], [], [], [], [], []]⟩ = some (.exit 0, ⟨[.undef, .d (.int .i64 now), .ptr (2, 0) 0, .undef, .undef, .undef, .arr (33, 0) (3, 1) none false, .undef, .undef, .undef, .undef, .undef, .undef, .undef, .undef, .undef, .undef, .undef, .undef, .undef, .undef, .undef, .undef, .undef, .undef, .undef, .undef, .undef, .undef, .undef, .undef, .undef, .undef, .undef, .undef, .undef, .undef, .undef, .undef, .undef, .undef, .undef, .undef, .undef], [[], [], [some (.box [.d (.int .i64 wy), .d (.int .i64 mr), .d (.int .i64 mt), .d (.lst ks), .d (.lst ps), .d (.lst ts), .d (.bool dn)])], [], [], [], [], [], [], [], [], [], [], [], [], [], [], [], [], [], [], [], [], [], [], [], [], [], [], [], [], [], [], [some (.rows (3, 1) (acc ++ flt q (ts.drop i.toNat)))], [], [], [], [], [], [], [], [], [], []]⟩)
  | 0, i, acc, h0, h, ha, hc => by
    have hi : i = n := by omega
    subst hi
    rw [List.drop_eq_nil_of_le (by omega), show flt q [] = [] from rfl, List.append_nil]
    exact lh_end ho wy mr mt ks ps ts dn  acc now i (by rw [ho.len]; exact hn) (lt_no ho i)
  | r + 1, i, acc, h0, h, ha, hc => by
    obtain ⟨x, hxi⟩ : ∃ x, ts[i.toNat]? = some x := ⟨_, List.getElem?_eq_getElem (by omega)⟩
    obtain ⟨p1, p2⟩ := List.getElem?_eq_some_iff.1 hxi
    have hdr : ts.drop i.toNat = x :: ts.drop (i + 1).toNat := by rw [List.drop_eq_getElem_cons p1, p2, show (i + 1).toNat = i.toNat + 1 by omega]
    obtain ⟨p, rfl⟩ := hx x (List.mem_of_getElem? hxi)
    have hc2 : ∀ x ∈ acc ++ [.int .i64 p], x.cells.length = 1 := by
      intro y h'
      rcases List.mem_append.1 h' with h' | h'
      · exact hc y h'
      · rw [List.mem_singleton.1 h']; rfl
    have st := lh_step ho wy mr mt ks ps ts dn  acc _ now n i (i + 1) p q (by rw [ho.len]; exact hn) (lt_yes ho (by omega)) (elt_some ho ts i _ h0 hxi) hq (ho.app _ _) (fits_small ho (by simp; omega) (by omega) hc2) (add_of ho (by omega) (by omega))
    rw [gt_of ho] at st
    rw [hdr]
    by_cases hp : p > q
    · rw [show decide (p > q) = true by simpa using hp] at st
      have ih := lh_loop wy mr mt ks ps ts dn  now n q hq hn hm hx r (i + 1) (acc ++ [.int .i64 p]) (by omega) (by omega) (by simp; omega) hc2
      rw [show flt q (D.int .i64 p :: ts.drop (i + 1).toNat) = .int .i64 p :: flt q (ts.drop (i + 1).toNat) by simp [flt, hp]]
      rw [List.append_assoc] at ih
      exact st _ ih
    · rw [show decide (p > q) = false by simpa using hp] at st
      have ih := lh_loop wy mr mt ks ps ts dn  now n q hq hn hm hx r (i + 1) acc (by omega) (by omega) (by omega) hc
      rw [show flt q (D.int .i64 p :: ts.drop (i + 1).toNat) = flt q (ts.drop (i + 1).toNat) by simp [flt, hp]]
      exact st _ ih
/-- Hit comes to the same on both sides. -/
theorem hits (wy mr mt : Int) (ks ps ts : List D) (dn : Bool) (now : Int) (hnow : (Lit.int .i64 now).wf = true) {n : Nat} (hk : Fits Try.prog (n + 1) 27 [.lst ks]) (sk : Sm 1048576 (.lst ks)) (hp : (∀ x ∈ ps, ∃ p, x = .int .i64 p)) (sp : ps.length ≤ 1048576) (ht : (∀ x ∈ ts, ∃ p, x = .int .i64 p)) (st : ts.length ≤ 1048576) :
    ∃ (tl ys : List D) (b : Bool), o.call 10 [.agg [.d (.int .i64 wy), .d (.int .i64 mr), .d (.int .i64 mt), .d (.lst ks), .d (.lst ps), .d (.lst ts), .d (.bool dn)], .d (.int .i64 now)] [] = some ⟨.tup [.agg [.d (.int .i64 wy), .d (.int .i64 mr), .d (.int .i64 mt), .d (.lst ks), .d (.lst ps), .d (.lst tl), .d (.bool dn)], .d (.bool b)], [], []⟩ ∧ o.call 12 [.agg [.d (.int .i64 wy), .d (.int .i64 mr), .d (.int .i64 mt), .d (.lst ks), .d (.lst ps), .d (.lst ts), .d (.bool dn)], .d (.int .i64 now)] [] = some ⟨.tup [.agg [.d (.int .i64 wy), .d (.int .i64 mr), .d (.int .i64 mt), .arr (0, 0) (97, 7) none false, .arr (0, 1) (3, 1) none false, .arr (0, 2) (3, 1) none false, .d (.bool dn)], .d (.bool b)], [], [some (.orows (97, 7) ys), some (.rows (3, 1) ps), some (.rows (3, 1) tl)]⟩ ∧ frozeL ys = ks ∧ Own Try.prog (n + 1) 27 [.own (97, 7) ys] ∧ tl.length ≤ 1048577 ∧ (∀ x ∈ tl, ∃ p, x = .int .i64 p) ∧ (∀ x ∈ tl, x ∈ ts ∨ x = .int .i64 now) := by
  obtain ⟨ys, hcp, hys, hown⟩ := copyOver ho wy mr mt ks ps ts dn hk sk hp sp ht st
  have hlc := l14Copy ho wy mr mt ks ps ts dn hk sk hp sp ht st
  have hov : ∃ ov : Bool, o.call 33 [.agg [.d (.int .i64 wy), .d (.int .i64 mr), .d (.int .i64 mt), .d (.lst ks), .d (.lst ps), .d (.lst ts), .d (.bool dn)]] [] = some ⟨.d (.bool ov), [], []⟩ ∧ o.call 39 [.agg [.d (.int .i64 wy), .d (.int .i64 mr), .d (.int .i64 mt), .d (.lst ks), .d (.lst ps), .d (.lst ts), .d (.bool dn)]] [] = some ⟨.d (.bool ov), [], []⟩ := by
    obtain ⟨zs, q, eq, e_, hx, hall⟩ := fits_lst Try.underlying27 hk
    injection e_ with e_; injection e_ with e_; subst e_
    injection eq with eq; subst eq
    refine overs ho wy mr mt ks ps ts dn hx (by unfold maxLen; omega) (by unfold maxLen; omega) (fun x hm => ?_) hp ht
    obtain ⟨f1, f2⟩ := hall x hm
    rw [show aggT Try.prog 97 = true by unfold aggT; rw [Try.underlying97]] at f2
    exact kd_of ho f2 f1
  obtain ⟨ov, ov1, ov2⟩ := hov
  generalize hq : o.ar .sub .i64 now mt = q
  have l1 := hi_loop ho wy mr mt ks ps ts dn ys now ts.length q hq rfl (by omega) ht ts.length 0 [] (Int.le_refl _) (by omega) (by simp) (by simp)
  have l2 := lh_loop ho wy mr mt ks ps ts dn now ts.length q hq rfl (by omega) ht ts.length 0 [] (Int.le_refl _) (by omega) (by simp) (by simp)
  simp only [Int.toNat_zero, List.drop_zero, List.nil_append] at l1 l2
  have hF := flt_len q ts
  have hFi : ∀ x ∈ flt q ts, ∃ p, x = .int .i64 p := fun x hm => ht x (flt_mem hm)
  have hAi : ∀ x ∈ flt q ts ++ [.int .i64 now], ∃ p, x = .int .i64 p := fun x hm => by
    rcases List.mem_append.1 hm with hm | hm
    · exact hFi x hm
    · exact ⟨now, List.mem_singleton.1 hm⟩
  have hAo : ∀ x ∈ flt q ts ++ [.int .i64 now], x ∈ ts ∨ x = .int .i64 now := fun x hm => by
    rcases List.mem_append.1 hm with hm | hm
    · exact .inl (flt_mem hm)
    · exact .inr (List.mem_singleton.1 hm)
  have hfA : o.fits 1 8 (flt q ts ++ [.int .i64 now]) = true := fits_small ho (by simp; omega) (by omega) fun x hm => by obtain ⟨p, rfl⟩ := hAi x hm; rfl
  have hh := lh32 ho wy mr mt ks ps ts dn _ _ now _ l2 (ho.app _ _) hfA (ho.len _)
  have hlenA : (((flt q ts ++ ([.int .i64 now] : List D)).length : Nat) : Int) = ((flt q ts).length : Int) + 1 := by simp
  rw [hlenA] at hh
  generalize hok : o.cmp .leq (((flt q ts).length : Int) + 1) mr = ok at hh
  have hmm : o.cmp .geq ((flt q ts).length : Int) mr = !ok := by
    rw [← hok, ge_of ho, le_of ho]
    by_cases h : ((flt q ts).length : Int) ≥ mr
    · simp [h, show ¬ (((flt q ts).length : Int) + 1 ≤ mr) by omega]
    · simp [h, show ((flt q ts).length : Int) + 1 ≤ mr by omega]
  by_cases g : ((o.cmp .geq now 0 && o.cmp .leq now 100000000) && ov) = false
  · refine ⟨ts, ys, false, h10_bad ho wy mr mt ks ps ts dn now hlc _ ok ov hh ov1 ?_, h12_bad ho wy mr mt ks ps ts dn ys now hcp ov ov2 g, hys, hown, by omega, ht, fun x hx => .inl hx⟩
    generalize (o.cmp .geq now 0 && o.cmp .leq now 100000000) = gr at g ⊢
    cases ov <;> cases gr <;> cases ok <;> simp_all
  · have g' := eq_true_of_ne_false g
    simp only [Bool.and_eq_true] at g'
    obtain ⟨⟨g0, g1⟩, g2⟩ := g'
    subst g2
    by_cases hz : 0 < ts.length
    · obtain ⟨x, hxl⟩ : ∃ x, ts[(((ts.length : Nat) : Int) - 1).toNat]? = some x := ⟨_, List.getElem?_eq_getElem (by omega)⟩
      obtain ⟨l, rfl⟩ := ht x (List.mem_of_getElem? hxl)
      have z : o.cmp .gtr ((ts.length : Nat) : Int) 0 = true := by rw [gt_of ho]; simp; omega
      have hd : o.ar .sub .i64 ((ts.length : Nat) : Int) 1 = ((ts.length : Nat) : Int) - 1 := sub_of ho (by omega) (by omega)
      have he := elt_some ho ts (((ts.length : Nat) : Int) - 1) _ (by omega) hxl
      have e12 : o.cmp .lss now l = o.cmp .gtr l now := by rw [lt_of ho, gt_of ho]
      cases hl : o.cmp .gtr l now with
      | true =>
        refine ⟨ts, ys, false, ?_, h12_late ho wy mr mt ks ps ts dn ys now hcp g0 g1 ov2 _ (ho.len ts) z _ l hd he (by rw [e12, hl]), hys, hown, by omega, ht, fun x hx => .inl hx⟩
        cases ok with
        | false => exact h10_bad ho wy mr mt ks ps ts dn now hlc _ false true hh ov1 (by simp)
        | true => exact h10_late ho wy mr mt ks ps ts dn now hlc _ hh ov1 g0 g1 _ (ho.len ts) z _ l hd he hl
      | false =>
        cases ok with
        | false =>
          exact ⟨ts, ys, false, h10_bad ho wy mr mt ks ps ts dn now hlc _ false true hh ov1 (by simp), h12_manyl ho wy mr mt ks ps ts dn ys now hcp g0 g1 ov2 _ (ho.len ts) z _ l hd he (by rw [e12, hl]) _ _ l1 (ho.len _) hmm, hys, hown, by omega, ht, fun x hx => .inl hx⟩
        | true =>
          exact ⟨flt q ts ++ [.int .i64 now], ys, true, h10_yesl ho wy mr mt ks ps ts dn now hlc _ hh ov1 g0 g1 _ (ho.len ts) z _ l hd he hl, h12_yesl ho wy mr mt ks ps ts dn ys now hcp g0 g1 ov2 _ (ho.len ts) z _ l hd he (by rw [e12, hl]) _ _ l1 (ho.len _) hmm _ (ho.app _ _) hfA, hys, hown, by simp; omega, hAi, hAo⟩
    · have z : o.cmp .gtr ((ts.length : Nat) : Int) 0 = false := by rw [gt_of ho]; exact decide_eq_false (by omega)
      cases ok with
      | false =>
        exact ⟨ts, ys, false, h10_bad ho wy mr mt ks ps ts dn now hlc _ false true hh ov1 (by simp), h12_manyz ho wy mr mt ks ps ts dn ys now hcp g0 g1 ov2 _ (ho.len ts) z _ _ l1 (ho.len _) hmm, hys, hown, by omega, ht, fun x hx => .inl hx⟩
      | true =>
        exact ⟨flt q ts ++ [.int .i64 now], ys, true, h10_yesz ho wy mr mt ks ps ts dn now hlc _ hh ov1 g0 g1 _ (ho.len ts) z, h12_yesz ho wy mr mt ks ps ts dn ys now hcp g0 g1 ov2 _ (ho.len ts) z _ _ l1 (ho.len _) hmm _ (ho.app _ _) hfA, hys, hown, by simp; omega, hAi, hAo⟩
end T1
