/- Types of one shape; small data. -/
import Derived.Test.YtdkaahhcejipjaaOVi29
set_option linter.unusedVariables false
set_option linter.unusedSimpArgs false
set_option linter.unnecessarySimpa false
set_option linter.unusedSectionVars false
namespace Go.Vi
open Go Go.RowKit

/-- Two lists of fields of one shape. -/
def sameFs (P : Program) (S : List (TypeId × TypeId)) : List Field → List Field → Bool
  | [], [] => true
  | f :: fs, g :: gs => f.offset == g.offset && P.cellsOf f.type == P.cellsOf g.type && S.contains (f.type, g.type) && sameFs P S fs gs
  | _, _ => false
def sameB (P : Program) (S : List (TypeId × TypeId)) : Bool := S.all fun p => match P.underlying p.1, P.underlying p.2 with
  | some .bool, some .bool => true
  | some (.int k), some (.int k') => k == k'
  | some .string, some .string => true
  | some (.slice e), some (.slice e') => S.contains (e, e') && aggT P e == aggT P e'
  | some (.struct fs), some (.struct gs) => P.cellsOf p.1 == P.cellsOf p.2 && sameFs P S fs.toList gs.toList
  | _, _ => false

theorem sameFs_get {P : Program} {S : List (TypeId × TypeId)} : ∀ {fs gs : List Field}, sameFs P S fs gs = true → ∀ g ∈ gs, ∃ f ∈ fs, f.offset = g.offset ∧ P.cellsOf f.type = P.cellsOf g.type ∧ (f.type, g.type) ∈ S
  | [], [], _, g, hg => by simp at hg
  | f :: fs, g :: gs, h, x, hx => by
    simp only [sameFs, Bool.and_eq_true, beq_iff_eq] at h
    obtain ⟨⟨⟨h1, h2⟩, h3⟩, h4⟩ := h
    rcases List.mem_cons.1 hx with rfl | hx
    · exact ⟨f, by simp, h1, h2, by simpa using h3⟩
    · obtain ⟨f', k1, k2⟩ := sameFs_get h4 x hx
      exact ⟨f', by simp [k1], k2⟩
  | [], _ :: _, h, _, _ => by simp [sameFs] at h
  | _ :: _, [], h, _, _ => by simp [sameFs] at h

theorem fits_same {P : Program} {S : List (TypeId × TypeId)} (hS : sameB P S = true) : ∀ (n : Nat) (t t' : TypeId) (ds : List D), (t, t') ∈ S → Fits P n t ds → Fits P n t' ds := by
  intro n
  induction n with
  | zero => intro t t' ds _ h; simp [Fits] at h
  | succ n ih =>
    intro t t' ds hm h
    have hp := List.all_eq_true.1 hS _ hm
    simp only [Fits] at h ⊢
    cases hu : P.underlying t with
    | none => simp [hu] at h
    | some d =>
      cases hu' : P.underlying t' with
      | none => simp [hu, hu'] at hp
      | some d' =>
        simp only [hu, hu'] at hp h ⊢
        cases d <;> cases d' <;> simp only at hp h ⊢ <;> first
          | (cases hp; done)
          | exact h
          | (exact h.elim)
          | (have hk : _ = _ := (by simpa using hp); subst hk; exact h)
          | (simp only [Bool.and_eq_true, beq_iff_eq] at hp
             obtain ⟨xs, h1, h2, h3⟩ := h
             exact ⟨xs, h1, h2, fun x hx => ⟨ih _ _ _ (by simpa using hp.1) (h3 x hx).1, by rw [← hp.2]; exact (h3 x hx).2⟩⟩)
          | (simp only [Bool.and_eq_true, beq_iff_eq] at hp
             obtain ⟨h1, h2⟩ := h
             refine ⟨by rw [← hp.1]; exact h1, fun g hg => ?_⟩
             obtain ⟨f, k1, k2, k3, k4⟩ := sameFs_get hp.2 g hg
             rw [← k2, ← k3]
             exact ih _ _ _ k4 (h2 f k1))

theorem len_succ {ds : List D} {n : Nat} (h : ds.length = n + 1) : ∃ c es, ds = c :: es ∧ es.length = n := by
  cases ds with
  | nil => simp at h
  | cons c es => exact ⟨c, es, rfl, by simpa using h⟩

mutual
/-- Data of which no list and no text is long. -/
def Sm (B : Nat) : D → Prop
  | .str s => s.size ≤ B
  | .lst xs => xs.length ≤ B ∧ SmL B xs
  | .agg cs => SmL B cs
  | _ => True
def SmL (B : Nat) : List D → Prop
  | [] => True
  | x :: xs => Sm B x ∧ SmL B xs
end

theorem SmL_iff {B : Nat} : ∀ {xs : List D}, SmL B xs ↔ ∀ x ∈ xs, Sm B x
  | [] => by simp [SmL]
  | x :: xs => by simp only [SmL, SmL_iff (xs := xs), List.mem_cons, forall_eq_or_imp]

theorem Sm_cells {B : Nat} {x : D} (h : Sm B x) : SmL B x.cells := by
  cases x <;> simp only [D.cells, SmL, and_true] <;> first | exact h | (simpa only [Sm] using h)

end Go.Vi
namespace Go.Vi
open Go
section
variable {P : Program} {n : Nat} {t : TypeId} {ds : List D}
theorem fits_int {k : IntKind} (hu : P.underlying t = some (.int k)) (h : Fits P n t ds) : ∃ i, ds = [.int k i] ∧ (Lit.int k i).wf = true := by
  cases n with
  | zero => simp [Fits] at h
  | succ n => simpa only [Fits, hu] using h
theorem fits_bool (hu : P.underlying t = some .bool) (h : Fits P n t ds) : ∃ b, ds = [.bool b] := by
  cases n with
  | zero => simp [Fits] at h
  | succ n => simpa only [Fits, hu] using h
theorem fits_str (hu : P.underlying t = some .string) (h : Fits P n t ds) : ∃ s : ByteArray, ds = [.str s] ∧ s.size ≤ maxLen := by
  cases n with
  | zero => simp [Fits] at h
  | succ n => simpa only [Fits, hu] using h
theorem fits_lst {e : TypeId} (hu : P.underlying t = some (.slice e)) (h : Fits P n t ds) : ∃ xs m, n = m + 1 ∧ ds = [.lst xs] ∧ xs.length ≤ maxLen ∧ ∀ x ∈ xs, Fits P m e x.cells ∧ x.many = aggT P e := by
  cases n with
  | zero => simp [Fits] at h
  | succ n =>
    simp only [Fits, hu] at h
    obtain ⟨xs, h1, h2, h3⟩ := h
    exact ⟨xs, n, rfl, h1, h2, h3⟩
theorem many_agg {x : D} (h : x.many = true) : x = .agg x.cells := by cases x <;> first | rfl | simp [D.many] at h
theorem one_cell {x : D} (h : x.many = false) : x.cells = [x] := by cases x <;> first | rfl | simp [D.many] at h
end
end Go.Vi
