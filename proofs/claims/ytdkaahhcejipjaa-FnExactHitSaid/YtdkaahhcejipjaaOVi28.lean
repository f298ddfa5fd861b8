/- What a row's reader reads of plain data: data. -/
import Derived.Test.YtdkaahhcejipjaaOVi27
import Derived.ChangeArms
import Derived.DataReads
import Derived.ProofKit
set_option linter.unusedVariables false
set_option linter.unusedSimpArgs false
set_option linter.unnecessarySimpa false
set_option linter.unusedSectionVars false
namespace Go.Vi
open Go Go.RowKit
section
variable {P : Program} {H : Type} {enc : TypeId × Value → H} {w : World} {spare : Nat → Bool} {held : Bool}

def aggT (P : Program) (t : TypeId) : Bool := match P.underlying t with
  | some (.struct _) => true
  | _ => false

/-- Cells of a type, so deep. -/
def Fits (P : Program) : Nat → TypeId → List D → Prop
  | 0, _, _ => False
  | n + 1, t, ds => match P.underlying t with
    | some .bool => ∃ b, ds = [.bool b]
    | some (.int k) => ∃ i, ds = [.int k i] ∧ (Lit.int k i).wf = true
    | some .string => ∃ s : ByteArray, ds = [.str s] ∧ s.size ≤ maxLen
    | some (.slice e) => ∃ xs, ds = [.lst xs] ∧ xs.length ≤ maxLen ∧ ∀ x ∈ xs, Fits P n e x.cells ∧ x.many = aggT P e
    | some (.struct fs) => ds.length = P.cellsOf t ∧ ∀ f ∈ fs.toList, Fits P n f.type ((ds.drop f.offset).take (P.cellsOf f.type))
    | _ => False

def tilesB (P : Program) : List Field → Nat → Nat → Bool
  | [], off, total => off == total
  | f :: fs, off, total => f.offset == off && tilesB P fs (off + P.cellsOf f.type) total
def plainB (P : Program) (S : List TypeId) : Bool := S.all fun t => match P.underlying t with
  | some .bool => true
  | some (.int _) => true
  | some .string => true
  | some (.slice e) => S.contains e && decide (0 < P.cellsOf e)
  | some (.struct fs) => tilesB P fs.toList 0 (P.cellsOf t) && fs.toList.all fun f => S.contains f.type
  | _ => false

theorem choose_list {α : Type} {Q : Nat → α → Prop} : ∀ n, (∀ i, i < n → ∃ x, Q i x) → ∃ xs : List α, xs.length = n ∧ ∀ i x, xs[i]? = some x → Q i x
  | 0, _ => ⟨[], rfl, by simp⟩
  | n + 1, h => by
    obtain ⟨xs, h1, h2⟩ := choose_list n fun i hi => h i (by omega)
    obtain ⟨x, hx⟩ := h n (by omega)
    refine ⟨xs ++ [x], by simp [h1], fun i y hy => ?_⟩
    rw [List.getElem?_append] at hy
    split at hy
    · exact h2 i y hy
    · rename_i hlt
      have : i = n := by
        have := (List.getElem?_eq_some_iff.1 hy).1
        simp at this; omega
      subst this
      simp [h1] at hy
      subst hy
      exact hx

theorem tiles_le : ∀ {fs : List Field} {off total : Nat}, tilesB P fs off total = true → off ≤ total
  | [], off, total, h => by simp [tilesB] at h; omega
  | f :: fs, off, total, h => by
    simp only [tilesB, Bool.and_eq_true, beq_iff_eq] at h
    have := tiles_le h.2
    omega

theorem RDs_append {Z : Nat → Prop} : ∀ {ds es : List D} {cs vs : List Value}, RDs w Z ds cs → RDs w Z es vs → RDs w Z (ds ++ es) (cs ++ vs)
  | [], es, cs, vs, h, k => by simp only [RDs] at h; subst h; exact k
  | d :: ds, es, cs, vs, h, k => by
    simp only [RDs] at h
    obtain ⟨v, cs', rfl, h1, h2⟩ := h
    simp only [List.cons_append, RDs]
    exact ⟨v, cs' ++ vs, rfl, h1, RDs_append h2 k⟩

theorem tile {Z : Nat → Prop} {n : Nat} {cs : List Value} : ∀ {fs : List Field} {off : Nat}, tilesB P fs off cs.length = true → (∀ f ∈ fs, ∃ ds, RDs w Z ds ((cs.drop f.offset).take (P.cellsOf f.type)) ∧ Fits P n f.type ds) →
    ∃ ds, RDs w Z ds (cs.drop off) ∧ ∀ f ∈ fs, off ≤ f.offset ∧ Fits P n f.type ((ds.drop (f.offset - off)).take (P.cellsOf f.type))
  | [], off, h, _ => by
    simp [tilesB] at h
    refine ⟨[], ?_, by simp⟩
    rw [h]; simp [RDs]
  | f :: fs, off, h, hf => by
    simp only [tilesB, Bool.and_eq_true, beq_iff_eq] at h
    obtain ⟨h1, h2⟩ := h
    obtain ⟨d1, k1, k2⟩ := hf f (by simp)
    obtain ⟨ds, m1, m2⟩ := tile h2 fun g hg => hf g (by simp [hg])
    have hle := tiles_le h2
    rw [h1] at k1
    have hl : d1.length = P.cellsOf f.type := by
      rw [(RDs_iff.1 k1).1, List.length_take, List.length_drop]
      omega
    refine ⟨d1 ++ ds, ?_, fun g hg => ?_⟩
    · have e : cs.drop off = (cs.drop off).take (P.cellsOf f.type) ++ cs.drop (off + P.cellsOf f.type) := by
        rw [← List.drop_drop, List.take_append_drop]
      rw [e]
      exact RDs_append k1 m1
    · rcases List.mem_cons.1 hg with rfl | hg
      · refine ⟨by omega, ?_⟩
        rw [h1, Nat.sub_self, List.drop_zero, ← hl, List.take_left]
        exact k2
      · obtain ⟨p1, p2⟩ := m2 g hg
        refine ⟨by omega, ?_⟩
        have : g.offset - off = d1.length + (g.offset - (off + P.cellsOf f.type)) := by omega
        rw [this, List.drop_length_add_append]
        exact p2

theorem open_data {S : List TypeId} (hS : plainB P S = true) : ∀ (fuel : Nat) (t : TypeId) (cs : List Value) (x : DataW H × List MemPlace), t ∈ S → DataW.trod enc P w 0 spare held fuel t cs = some x →
    ∃ ds, RDs w (fun b => b < w.heap.size) ds cs ∧ Fits P fuel t ds := by
  intro fuel
  induction fuel with
  | zero => intro t cs x _ h; simp [DataW.trod] at h
  | succ n ih =>
    intro t cs x ht h
    have hp := List.all_eq_true.1 hS t ht
    cases hu : P.underlying t with
    | none => simp [hu] at hp
    | some d =>
      simp only [hu] at hp
      cases d with
      | bool =>
        obtain ⟨b, rfl, _⟩ := DataW.trod_bool hu h
        exact ⟨[.bool b], by simp [RDs, RD], by simp [Fits, hu]⟩
      | int k =>
        obtain ⟨i, rfl, _, hw⟩ := DataW.trod_int hu h
        exact ⟨[.int k i], by simp [RDs, RD], by simp only [Fits, hu]; exact ⟨i, rfl, hw⟩⟩
      | string =>
        obtain ⟨s, rfl, _, hs⟩ := DataW.trod_string hu h
        exact ⟨[.str s], by simp [RDs, RD], by simp only [Fits, hu]; exact ⟨s, rfl, hs⟩⟩
      | slice e =>
        simp only [Bool.and_eq_true, decide_eq_true_eq] at hp
        obtain ⟨he, hpos⟩ := hp
        have he' : e ∈ S := by simpa using he
        rcases DataW.trod_slice hu h with ⟨rfl, _⟩ | ⟨a, len, cap, elems, rest, m, hm, rfl, _, _, hl, hmx, hlen, hel, _⟩
        · refine ⟨[.lst []], ?_, by simp only [Fits, hu]; exact ⟨[], rfl, by simp [maxLen], by simp⟩⟩
          simp only [RDs, RD]
          exact ⟨_, [], rfl, ⟨none, 0, rfl, Nat.le_refl _, .inl trivial⟩, rfl⟩
        · have hmn : m = n := by omega
          subst hmn
          have key : ∀ i, i < len → ∃ y : D, (∃ vs, vs.length = P.cellsOf e ∧ RD w (fun b => b < w.heap.size) y vs ∧ ∀ j v, vs[j]? = some v → w.cell? ⟨a.block, a.off + i * P.cellsOf e + j, none⟩ = some v) ∧ Fits P m e y.cells ∧ y.many = aggT P e := by
            intro i hi
            have h1 := hel i hi
            obtain ⟨z, hz⟩ : ∃ z, elems[i]? = some z := ⟨_, List.getElem?_eq_getElem (by omega)⟩
            rw [hz, Option.bind_eq_some_iff] at h1
            obtain ⟨vs, hvs, hz'⟩ := h1
            obtain ⟨ds, d1, d2⟩ := ih e vs z he' hz'
            obtain ⟨_, hvl, hvc⟩ := World.cells?_some hvs
            have hcell : ∀ j v, vs[j]? = some v → w.cell? ⟨a.block, a.off + i * P.cellsOf e + j, none⟩ = some v := by
              intro j v hj
              have hjl : j < P.cellsOf e := by rw [← hvl]; exact (List.getElem?_eq_some_iff.1 hj).1
              have := hvc j hjl
              rw [hj] at this
              have ha : (a.add (i * P.cellsOf e)).add j = ⟨a.block, a.off + i * P.cellsOf e + j, none⟩ ∨ ((a.add (i * P.cellsOf e)).add j).spot.isSome = true := by
                unfold Addr.add
                by_cases h1 : i * P.cellsOf e = 0
                · by_cases h2 : j = 0
                  · cases hsp : a.spot with
                    | none => left; simp [h1, h2]; cases a; simp at hsp ⊢; exact hsp
                    | some sp => right; simp [h1, h2, hsp]
                  · left; simp [h1, h2]
                · by_cases h2 : j = 0
                  · left; simp [h1, h2]
                  · left; simp [h1, h2]
              rcases ha with ha | ha
              · rw [← ha]; exact this
              · exfalso
                unfold World.cell? at this
                rw [ha] at this
                split at this <;> simp at this
            have hrl := (RDs_iff.1 d1).1
            cases hag : aggT P e with
            | true => exact ⟨.agg ds, ⟨vs, hvl, by simpa only [RD] using d1, hcell⟩, d2, by simp [D.many]⟩
            | false =>
              have hone : ∃ y : D, ds = [y] ∧ y.many = false := by
                cases m with
                | zero => simp [Fits] at d2
                | succ m' =>
                  simp only [Fits] at d2
                  unfold aggT at hag
                  split at d2
                  · obtain ⟨b, rfl⟩ := d2; exact ⟨_, rfl, rfl⟩
                  · obtain ⟨b, rfl, _⟩ := d2; exact ⟨_, rfl, rfl⟩
                  · obtain ⟨b, rfl, _⟩ := d2; exact ⟨_, rfl, rfl⟩
                  · obtain ⟨b, rfl, _⟩ := d2; exact ⟨_, rfl, rfl⟩
                  · rename_i hst; rw [hst] at hag; cases hag
                  · exact d2.elim
              obtain ⟨y, rfl, hy⟩ := hone
              have hyc : y.cells = [y] := by cases y <;> first | rfl | simp [D.many] at hy
              refine ⟨y, ⟨vs, hvl, ?_, hcell⟩, by rw [hyc]; exact d2, hy⟩
              simp only [RDs] at d1
              obtain ⟨v, vs', rfl, q1, rfl⟩ := d1
              exact q1
          obtain ⟨xs, x1, x2⟩ := choose_list len key
          refine ⟨[.lst xs], ?_, ?_⟩
          · simp only [RDs, RD]
            refine ⟨_, [], rfl, ⟨some a, cap, by rw [x1], by omega, ?_⟩, rfl⟩
            by_cases hx0 : xs = []
            · exact .inl hx0
            · right
              have hpos' := List.length_pos_iff.2 hx0
              obtain ⟨y0, hy0⟩ : ∃ y0, xs[0]? = some y0 := ⟨_, List.getElem?_eq_getElem hpos'⟩
              have hspot : a.spot = none := by
                have h1 := hel 0 (by omega)
                obtain ⟨z, hz⟩ : ∃ z, elems[0]? = some z := ⟨_, List.getElem?_eq_getElem (by omega)⟩
                rw [hz, Option.bind_eq_some_iff] at h1
                obtain ⟨vs, hvs, _⟩ := h1
                obtain ⟨_, hvl, hvc⟩ := World.cells?_some hvs
                have := hvc 0 hpos
                cases hsp : a.spot with
                | none => rfl
                | some sp =>
                  exfalso
                  have e1 : (a.add (0 * P.cellsOf e)).add 0 = a := by simp [Addr.add]
                  rw [e1] at this
                  have hv0 : (vs[0]?).isSome := by simp; omega
                  rw [← this] at hv0
                  unfold World.cell? at hv0
                  rw [hsp] at hv0
                  split at hv0 <;> simp at hv0
              refine ⟨a.block, a.off, P.cellsOf e, by cases a; simp at hspot ⊢; exact hspot, ?_, Rows_iff.2 fun i y hy => (x2 i y hy).1⟩
              obtain ⟨⟨vs, v1, _, v3⟩, _⟩ := x2 0 y0 hy0
              have : (vs[0]?).isSome := by simp; omega
              obtain ⟨v, hv⟩ := Option.isSome_iff_exists.1 this
              have hc := v3 0 v hv
              unfold World.cell? at hc
              split at hc
              · rename_i hb; exact (Array.getElem?_eq_some_iff.1 hb).1
              · cases hc
          · simp only [Fits, hu]
            refine ⟨xs, rfl, by omega, fun y hy => ?_⟩
            obtain ⟨i, hi⟩ := List.getElem?_of_mem hy
            exact (x2 i y hi).2
      | struct fs =>
        simp only [Bool.and_eq_true] at hp
        obtain ⟨hp1, hp2⟩ := hp
        obtain ⟨xs, m, hm, _, hlen, hxl, hf⟩ := DataW.trod_struct hu h
        have hmn : m = n := by omega
        subst hmn
        rw [← hlen] at hp1
        obtain ⟨ds, d1, d2⟩ := tile (P := P) (n := m) (cs := cs) (w := w) (Z := fun b => b < w.heap.size) hp1 fun f hfm => by
          obtain ⟨i, hi⟩ := List.getElem?_of_mem hfm
          have hi' : fs[i]? = some f := by simpa using hi
          have h1 := hf i f hi'
          obtain ⟨z, hz⟩ : ∃ z, xs[i]? = some z := ⟨_, List.getElem?_eq_getElem (by rw [hxl]; exact (Array.getElem?_eq_some_iff.1 hi').1)⟩
          rw [hz] at h1
          exact ih f.type _ z (by simpa using List.all_eq_true.1 hp2 f hfm) h1
        rw [List.drop_zero] at d1
        refine ⟨ds, d1, ?_⟩
        simp only [Fits, hu]
        refine ⟨by rw [(RDs_iff.1 d1).1, hlen], fun f hfm => ?_⟩
        have := (d2 f hfm).2
        simpa using this
      | _ => simp at hp

end
end Go.Vi
