/- Data that is owned all the way down; how many elements. -/
import Derived.Test.YtdkaahhcejipjaaOVi32
set_option linter.unusedVariables false
set_option linter.unusedSimpArgs false
set_option linter.unnecessarySimpa false
set_option linter.unusedSectionVars false
namespace Go.Vi
open Go

/-- Cells of a type, each list in them owned. -/
def Own (P : Program) : Nat → TypeId → List D → Prop
  | 0, _, _ => False
  | n + 1, t, ds => match P.underlying t with
    | some .bool => ∃ b, ds = [.bool b]
    | some (.int k) => ∃ i, ds = [.int k i] ∧ (Lit.int k i).wf = true
    | some .string => ∃ s : ByteArray, ds = [.str s] ∧ s.size ≤ maxLen
    | some (.slice e) => ∃ xs, ds = [.own (e, P.cellsOf e) xs] ∧ xs.length ≤ maxLen ∧ ∀ x ∈ xs, Own P n e x.cells ∧ x.many = aggT P e
    | some (.struct fs) => ds.length = P.cellsOf t ∧ ∀ f ∈ fs.toList, Own P n f.type ((ds.drop f.offset).take (P.cellsOf f.type))
    | _ => False

theorem frozeL_map : ∀ xs : List D, frozeL xs = xs.map frozeD
  | [] => rfl
  | x :: xs => by simp [frozeL, frozeL_map xs]
theorem froze_cells : ∀ x : D, (frozeD x).cells = frozeL x.cells
  | .agg cs => by simp [frozeD, D.cells]
  | .own sz xs => by simp [frozeD, D.cells, frozeL]
  | .int _ _ => by simp [frozeD, D.cells, frozeL]
  | .bool _ => by simp [frozeD, D.cells, frozeL]
  | .str _ => by simp [frozeD, D.cells, frozeL]
  | .lst _ => by simp [frozeD, D.cells, frozeL]
theorem froze_many : ∀ x : D, (frozeD x).many = x.many := by intro x; cases x <;> simp [frozeD, D.many]
theorem closedL_iff : ∀ {xs : List D}, closedL xs = true ↔ ∀ x ∈ xs, closedD x = true
  | [] => by simp [closedL]
  | x :: xs => by simp [closedL, closedL_iff (xs := xs)]

section
variable {P : Program}
theorem own_fits : ∀ (n : Nat) (t : TypeId) (ds : List D), Own P n t ds → Fits P n t (frozeL ds) := by
  intro n
  induction n with
  | zero => intro t ds h; simp [Own] at h
  | succ n ih =>
    intro t ds h
    simp only [Own] at h
    simp only [Fits]
    cases hu : P.underlying t with
    | none => simp [hu] at h
    | some d =>
      simp only [hu] at h
      cases d <;> simp only at h ⊢ <;> first
        | (exact h.elim)
        | (obtain ⟨b, rfl⟩ := h; exact ⟨b, by simp [frozeL, frozeD]⟩)
        | (obtain ⟨i, rfl, h2⟩ := h; exact ⟨i, by simp [frozeL, frozeD], h2⟩)
        | (obtain ⟨xs, rfl, h2, h3⟩ := h
           refine ⟨frozeL xs, by simp [frozeL, frozeD], by rw [frozeL_len]; exact h2, fun x hx => ?_⟩
           rw [frozeL_map] at hx
           obtain ⟨y, hy, rfl⟩ := List.mem_map.1 hx
           rw [froze_cells, froze_many]
           exact ⟨ih _ _ (h3 y hy).1, (h3 y hy).2⟩)
        | (obtain ⟨h1, h2⟩ := h
           refine ⟨by rw [frozeL_len]; exact h1, fun f hf => ?_⟩
           have := ih _ _ (h2 f hf)
           rw [frozeL_map, List.map_take, List.map_drop, ← frozeL_map] at this
           exact this)

/-- A tiling of the cells by the fields. -/
theorem tiles_all {Q : D → Prop} {ds : List D} : ∀ {fs : List Field} {off total : Nat}, tilesB P fs off total = true → total = ds.length → (∀ f ∈ fs, ∀ x ∈ (ds.drop f.offset).take (P.cellsOf f.type), Q x) → ∀ x ∈ ds.drop off, Q x
  | [], off, total, h, ht, _, x, hx => by
    simp [tilesB] at h
    rw [List.drop_eq_nil_of_le (by omega)] at hx
    cases hx
  | f :: fs, off, total, h, ht, hq, x, hx => by
    simp only [tilesB, Bool.and_eq_true, beq_iff_eq] at h
    obtain ⟨h1, h2⟩ := h
    have : ds.drop off = (ds.drop off).take (P.cellsOf f.type) ++ ds.drop (off + P.cellsOf f.type) := by
      rw [← List.drop_drop, List.take_append_drop]
    rw [this] at hx
    rcases List.mem_append.1 hx with hx | hx
    · exact hq f (by simp) x (by rw [h1]; exact hx)
    · exact tiles_all h2 ht (fun g hg => hq g (by simp [hg])) x hx

theorem own_closed {S : List TypeId} (hS : plainB P S = true) : ∀ (n : Nat) (t : TypeId) (ds : List D), t ∈ S → Own P n t ds → closedL ds = true := by
  intro n
  induction n with
  | zero => intro t ds _ h; simp [Own] at h
  | succ n ih =>
    intro t ds ht h
    have hp := List.all_eq_true.1 hS _ ht
    simp only [Own] at h
    cases hu : P.underlying t with
    | none => simp [hu] at h
    | some d =>
      simp only [hu] at h hp
      cases d <;> simp only at h hp <;> first
        | (exact h.elim)
        | (obtain ⟨b, rfl⟩ := h; rfl)
        | (obtain ⟨i, rfl, h2⟩ := h; rfl)
        | (obtain ⟨xs, rfl, h2, h3⟩ := h
           simp only [Bool.and_eq_true] at hp
           simp only [closedL, closedD, Bool.and_true]
           rw [closedL_iff]
           intro x hx
           have := ih _ _ (by simpa using hp.1) (h3 x hx).1
           cases x <;> simpa [D.cells, closedL, closedD] using this)
        | (obtain ⟨h1, h2⟩ := h
           simp only [Bool.and_eq_true] at hp
           rw [closedL_iff]
           intro x hx
           refine tiles_all (Q := fun x => closedD x = true) (off := 0) hp.1 h1.symm (fun f hf y hy => ?_) x (by simpa using hx)
           exact closedL_iff.1 (ih _ _ (by simpa using List.all_eq_true.1 hp.2 f hf) (h2 f hf)) y hy)

variable {n : Nat} {t : TypeId} {ds : List D}
theorem own_int {k : IntKind} (hu : P.underlying t = some (.int k)) (h : Own P n t ds) : ∃ i, ds = [.int k i] ∧ (Lit.int k i).wf = true := by
  cases n with
  | zero => simp [Own] at h
  | succ n => simpa only [Own, hu] using h
theorem own_bool (hu : P.underlying t = some .bool) (h : Own P n t ds) : ∃ b, ds = [.bool b] := by
  cases n with
  | zero => simp [Own] at h
  | succ n => simpa only [Own, hu] using h
theorem own_str (hu : P.underlying t = some .string) (h : Own P n t ds) : ∃ s : ByteArray, ds = [.str s] ∧ s.size ≤ maxLen := by
  cases n with
  | zero => simp [Own] at h
  | succ n => simpa only [Own, hu] using h
theorem own_lst {e : TypeId} {w : Nat} (hu : P.underlying t = some (.slice e)) (hw : P.cellsOf e = w) (h : Own P n t ds) : ∃ xs m, n = m + 1 ∧ ds = [.own (e, w) xs] ∧ xs.length ≤ maxLen ∧ ∀ x ∈ xs, Own P m e x.cells ∧ x.many = aggT P e := by
  cases n with
  | zero => simp [Own] at h
  | succ n =>
    simp only [Own, hu] at h
    obtain ⟨xs, h1, h2, h3⟩ := h
    exact ⟨xs, n, rfl, by rw [← hw]; exact h1, h2, h3⟩
theorem mk_own_lst {e : TypeId} {w : Nat} {xs : List D} (hu : P.underlying t = some (.slice e)) (hw : P.cellsOf e = w) (h2 : xs.length ≤ maxLen) (h3 : ∀ x ∈ xs, Own P n e x.cells ∧ x.many = aggT P e) : Own P (n + 1) t [.own (e, w) xs] := by
  simp only [Own, hu]
  exact ⟨xs, by rw [hw], h2, h3⟩
theorem mk_own_int {k : IntKind} {i : Int} (hu : P.underlying t = some (.int k)) (h : (Lit.int k i).wf = true) : Own P (n + 1) t [.int k i] := by simp only [Own, hu]; exact ⟨i, rfl, h⟩
theorem mk_own_bool {b : Bool} (hu : P.underlying t = some .bool) : Own P (n + 1) t [.bool b] := by simp only [Own, hu]; exact ⟨b, rfl⟩
theorem mk_own_str {s : ByteArray} (hu : P.underlying t = some .string) (h : s.size ≤ maxLen) : Own P (n + 1) t [.str s] := by simp only [Own, hu]; exact ⟨s, rfl, h⟩
theorem mk_own_struct {fs : Array Field} (hu : P.underlying t = some (.struct fs)) (h1 : ds.length = P.cellsOf t) (h2 : ∀ f ∈ fs.toList, Own P n f.type ((ds.drop f.offset).take (P.cellsOf f.type))) : Own P (n + 1) t ds := by simp only [Own, hu]; exact ⟨h1, h2⟩
theorem mk_fits_struct {fs : Array Field} (hu : P.underlying t = some (.struct fs)) (h1 : ds.length = P.cellsOf t) (h2 : ∀ f ∈ fs.toList, Fits P n f.type ((ds.drop f.offset).take (P.cellsOf f.type))) : Fits P (n + 1) t ds := by simp only [Fits, hu]; exact ⟨h1, h2⟩
theorem mk_fits_lst {e : TypeId} {xs : List D} (hu : P.underlying t = some (.slice e)) (h2 : xs.length ≤ maxLen) (h3 : ∀ x ∈ xs, Fits P n e x.cells ∧ x.many = aggT P e) : Fits P (n + 1) t [.lst xs] := by
  simp only [Fits, hu]
  exact ⟨xs, rfl, h2, h3⟩

theorem fits_mono : ∀ (n : Nat) (t : TypeId) (ds : List D), Fits P n t ds → Fits P (n + 1) t ds := by
  intro n
  induction n with
  | zero => intro t ds h; simp [Fits] at h
  | succ n ih =>
    intro t ds h
    unfold Fits at h ⊢
    split at h <;> first
      | exact h
      | (obtain ⟨xs, h1, h2, h3⟩ := h; exact ⟨xs, h1, h2, fun x hx => ⟨ih _ _ (h3 x hx).1, (h3 x hx).2⟩⟩)
      | (obtain ⟨h1, h2⟩ := h; exact ⟨h1, fun f hf => ih _ _ (h2 f hf)⟩)
theorem own_mono : ∀ (n : Nat) (t : TypeId) (ds : List D), Own P n t ds → Own P (n + 1) t ds := by
  intro n
  induction n with
  | zero => intro t ds h; simp [Own] at h
  | succ n ih =>
    intro t ds h
    unfold Own at h ⊢
    split at h <;> first
      | exact h
      | (obtain ⟨xs, h1, h2, h3⟩ := h; exact ⟨xs, h1, h2, fun x hx => ⟨ih _ _ (h3 x hx).1, (h3 x hx).2⟩⟩)
      | (obtain ⟨h1, h2⟩ := h; exact ⟨h1, fun f hf => ih _ _ (h2 f hf)⟩)
end

/-! ### how many elements -/
mutual
def cnt : D → Int
  | .lst xs => xs.length + cntL xs
  | .own _ xs => xs.length + cntL xs
  | .agg cs => cntL cs
  | _ => 0
def cntL : List D → Int
  | [] => 0
  | x :: xs => cnt x + cntL xs
end
mutual
theorem cnt_nn : ∀ x : D, 0 ≤ cnt x
  | .lst xs => by have := cntL_nn xs; simp only [cnt]; omega
  | .own _ xs => by have := cntL_nn xs; simp only [cnt]; omega
  | .agg cs => by have := cntL_nn cs; simp only [cnt]; omega
  | .int _ _ => by simp [cnt]
  | .bool _ => by simp [cnt]
  | .str _ => by simp [cnt]
theorem cntL_nn : ∀ xs : List D, 0 ≤ cntL xs
  | [] => by simp [cntL]
  | x :: xs => by have := cnt_nn x; have := cntL_nn xs; simp only [cntL]; omega
end
mutual
theorem cnt_froze : ∀ x : D, cnt (frozeD x) = cnt x
  | .lst xs => by simp only [frozeD]
  | .own _ xs => by simp only [frozeD, cnt, frozeL_len, cntL_froze xs]
  | .agg cs => by simp only [frozeD, cnt, cntL_froze cs]
  | .int _ _ => by simp only [frozeD]
  | .bool _ => by simp only [frozeD]
  | .str _ => by simp only [frozeD]
theorem cntL_froze : ∀ xs : List D, cntL (frozeL xs) = cntL xs
  | [] => rfl
  | x :: xs => by simp only [frozeL, cntL, cnt_froze x, cntL_froze xs]
end
theorem cntL_app : ∀ xs ys : List D, cntL (xs ++ ys) = cntL xs + cntL ys
  | [], ys => by simp [cntL]
  | x :: xs, ys => by simp only [List.cons_append, cntL, cntL_app xs ys]; omega
theorem cnt_cells (x : D) : cntL x.cells = cnt x := by cases x <;> simp [D.cells, cntL, cnt]
theorem cntL_drop {xs : List D} {k : Nat} {x : D} (h : xs[k]? = some x) : cntL (xs.drop k) = cnt x + cntL (xs.drop (k + 1)) := by
  obtain ⟨h1, h2⟩ := List.getElem?_eq_some_iff.1 h
  rw [List.drop_eq_getElem_cons h1, h2]
  rfl
theorem cntL_end {xs : List D} {k : Nat} (h : xs.length ≤ k) : cntL (xs.drop k) = 0 := by rw [List.drop_eq_nil_of_le h]; rfl

section
variable {F : FuncId → Option (VF × Bool)} {T : Nat → Option VL} {o : Ora} (ho : IsDen F T o)
include ho
theorem IsDen.froze (xs : List D) : o.froze xs = frozeL xs := by rw [ho]; rfl
theorem IsDen.closed (xs : List D) : o.closed xs = closedL xs := by rw [ho]; rfl
theorem IsDen.flat (xs : List D) : o.flat xs = xs.all fun x => match x with | .agg cs => cs.all plainC | x => plainC x := by rw [ho]; rfl
theorem IsDen.fits (z b : Nat) (xs : List D) : o.fits z b xs = (decide (xs.length * b ≤ 140737488355328 ∧ xs.length ≤ maxLen) && xs.all fun x => x.cells.length == z) := by rw [ho]; rfl
theorem IsDen.ofBytes (xs : List D) : o.ofBytes xs = (ofBytesI xs).map fun bs => ⟨bs.toArray⟩ := by rw [ho]; rfl
theorem IsDen.sFits (a b : ByteArray) : o.sFits a b = decide (((a.size + b.size : Nat) : Int) ≤ IntKind.i64.max) := by rw [ho]; rfl
theorem elt_set_same {xs : List D} {k : Int} {x y : D} (h0 : 0 ≤ k) (h : xs[k.toNat]? = some x) : o.elt (o.set xs k y) k = some y := by
  rw [ho.elt, ho.set]
  simp only [eltI]
  rw [if_pos h0, List.getElem?_set_self (List.getElem?_eq_some_iff.1 h).1]
theorem set_set_same {xs : List D} {k : Int} {x y : D} : o.set (o.set xs k x) k y = o.set xs k y := by
  rw [ho.set, ho.set, ho.set, List.set_set]
end
end Go.Vi
namespace Go.Vi
theorem cntL_flat : ∀ {xs : List D}, (∀ x ∈ xs, cnt x = 0) → cntL xs = 0
  | [], _ => rfl
  | x :: xs, h => by
    simp only [cntL]
    rw [h x (by simp), cntL_flat fun y hy => h y (by simp [hy])]
    rfl
end Go.Vi
