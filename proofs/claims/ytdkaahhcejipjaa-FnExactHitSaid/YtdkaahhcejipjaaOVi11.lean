/- Literals; slices of slices and of texts; texts of bytes. -/
import Derived.Test.YtdkaahhcejipjaaOVi10
set_option linter.unusedVariables false
set_option linter.unusedSimpArgs false
set_option linter.unnecessarySimpa false
set_option linter.unusedSectionVars false
namespace Go.Vi
open Go Go.RowKit
section
variable {P : Program} {call : FuncId → List AV → List (Option Obj) → Option CRes} {loop : Nat → St → Option (Out × St)}
variable {s : St} {a : Act} {w : World} {L : Loc} {Z : Nat → Prop}

theorem fold_list (off : Nat) : ∀ (vs : List Value) (k : Nat) (cells : Array Value), off + k + vs.length ≤ cells.size →
    ((vs.zipIdx k).foldl (fun cs (p : Value × Nat) => cs.setIfInBounds (off + p.2) p.1) cells).toList = cells.toList.take (off + k) ++ vs ++ cells.toList.drop (off + k + vs.length)
  | [], k, cells, _ => by simp
  | v :: vs, k, cells, h => by
    simp only [List.zipIdx_cons, List.foldl_cons]
    rw [fold_list off vs (k + 1) _ (by simp at h ⊢; omega)]
    simp only [Array.toList_setIfInBounds]
    have := list_seg_step cells.toList (off + k) v vs (by simp at h ⊢; omega)
    rw [show off + (k + 1) = off + k + 1 by omega, this]
    simp

theorem fill_eq {place : Nat → Option (Nat × Nat)} : ∀ {ps : List (Nat × Value)} {qs : List (Nat × List Value)} {cells : Array Value} {r : List Value},
    qs.length = ps.length → (∀ (j i : Nat) (v : Value) (off : Nat) (us : List Value), ps[j]? = some (i, v) → qs[j]? = some (off, us) → place i = some (off, v.cells.size) ∧ us = v.cells.toList) →
    fillA cells.toList qs = some r → Instr.fill place cells ps = some r.toArray
  | [], [], cells, r, _, _, e => by simp only [fillA] at e; injection e with e; subst e; simp [Instr.fill]
  | (i, v) :: ps, (off, us) :: qs, cells, r, hl, hp, e => by
    obtain ⟨h1, h2⟩ := hp 0 i v off us rfl rfl
    subst h2
    simp only [fillA] at e
    split at e
    case h_2 => cases e
    case h_1 c hc =>
      obtain ⟨k1, k2⟩ := lay_some hc
      have k1' : off + v.cells.size ≤ cells.size := by simpa using k1
      have hfold : v.cells.zipIdx.foldl (fun cs (p : Value × Nat) => cs.setIfInBounds (off + p.2) p.1) cells = c.toArray := by
        apply Array.ext'
        rw [← Array.foldl_toList, Array.toList_zipIdx]
        have := fold_list off v.cells.toList 0 cells (by simpa using k1')
        simp only [Nat.add_zero] at this
        rw [this, k2]
      have ih := fill_eq (place := place) (ps := ps) (qs := qs) (cells := c.toArray) (r := r) (by simpa using hl) (fun j i' v' off' us' a b => hp (j + 1) i' v' off' us' (by simpa using a) (by simpa using b)) (by simpa using e)
      simp only [Instr.fill, h1]
      rw [if_neg (by simp; omega)]
      rw [show (v.cells.zipIdx.foldl (fun cs (x : Value × Nat) => match x with | (c, j) => cs.setIfInBounds (off + j) c) cells) = c.toArray from hfold]
      exact ih
  | [], _ :: _, _, _, hl, _, _ => by simp at hl
  | _ :: _, [], _, _, hl, _, _ => by simp at hl

/-- Garbage. -/
theorem RS.push (h : RS s a w L Z) (np : Nat) {o : Go.Obj} {w' : World} (hw : w'.heap = w.heap.push o) (hos : w'.os = w.os) (htp : w'.tape = w.tape) (hop : w'.output = w.output) :
    RS s a w' L Z ∧ Tr np s.sto s.sto w w' L L Z Z ∧ ∀ q, (s.sto.get q).isSome → Same (cxOf w Z L s.sto) (cxOf w' Z L s.sto) q := by
  have hk : ∀ b, b < w.heap.size → w'.heap[b]? = w.heap[b]? := fun b hb => by rw [hw, Array.getElem?_push, if_neg (by omega)]
  have hz : ZLe w w' Z Z := fun b hb => ⟨hb, hk b (h.dis b hb).1⟩
  have hs : ∀ q, (s.sto.get q).isSome → Same (cxOf w Z L s.sto) (cxOf w' Z L s.sto) q := fun q hq => by
    obtain ⟨ob, ho⟩ := Option.isSome_iff_exists.1 hq
    exact ⟨rfl, fun k => k, fun sz xs k => ⟨xs, k, rfl⟩, fun b hb _ => blkSize_of_heap (hk b (h.block_lt ho hb))⟩
  refine ⟨⟨h.defers, RVs_mono (c := cxOf w Z L s.sto) (c' := cxOf w' Z L s.sto) hz _ _ (fun q hq => hs q (RVs_refs _ _ h.env q hq)) h.env, fun r ob hr => ?_, h.injH, fun b hb => ⟨by rw [hw]; simp; have := (h.dis b hb).1; omega, (h.dis b hb).2⟩⟩,
    ⟨hos, htp, hop, by rw [hw]; simp, fun b hb _ => hk b hb, fun _ h => .inl h, fun _ h => h, fun _ h => .inl h, fun _ _ => rfl, fun q _ hq => ⟨hq, hs q hq⟩⟩, hs⟩
  exact RO_mono (c := cxOf w Z L s.sto) (c' := cxOf w' Z L s.sto) hz rfl rfl (fun b hb => hk b (h.has_lt hr hb)) (fun q hq => hs q (RO_refs (h.obj r ob hr) q hq)) (h.obj r ob hr)

theorem toD_RD {c : Cx} {x : AV} {d : D} {v : Value} (e : toD x = some d) (hv : RVw c x v) : RD c.w c.Z d v.cells.toList := by
  cases x with
  | d y =>
    simp only [toD] at e
    injection e with e; subst e
    have h := hv (by simp [AV.refs])
    have := RV_cells h (by simp) (by simp) (by simp)
    simp only [AV.cells, RVs] at this
    obtain ⟨u, us, h1, h2, h3⟩ := this
    rw [h1, h3]
    simpa only [RV] using h2
  | agg cs =>
    simp only [toD] at e
    split at e
    · rename_i ds hds
      injection e with e; subst e
      have h := hv (by simp [AV.refs, dL_refs hds])
      simp only [RV] at h
      obtain ⟨vs, rfl, h2⟩ := h
      simp only [RD, Value.cells]
      exact dL_RDs hds h2
    · cases e
  | _ => simp [toD] at e

theorem toDs_RD {c : Cx} : ∀ {xs : List AV} {ds : List D} {vs : List Value}, toDs xs = some ds → RVsw c xs vs → ds.length = vs.length ∧ ∀ (i : Nat) (d : D) (v : Value), ds[i]? = some d → vs[i]? = some v → RD c.w c.Z d v.cells.toList
  | [], ds, vs, e, h => by
    simp only [toDs] at e; injection e with e; subst e
    have := h (by simp [AV.refsL])
    simp only [RVs] at this
    subst this
    simp
  | x :: xs, ds, vs, e, h => by
    simp only [toDs] at e
    split at e
    case h_2 => cases e
    case h_1 d hd =>
      split at e
      case h_2 => cases e
      case h_1 ds' hds =>
        injection e with e; subst e
        have hx : x.refs = [] := by
          cases x with
          | d y => rfl
          | agg cs => simp only [toD] at hd; split at hd
                      · rename_i q; simp [AV.refs, dL_refs q]
                      · cases hd
          | _ => simp [toD] at hd
        have hxs : ∀ {l : List AV} {e : List D}, toDs l = some e → AV.refsL l = [] := by
          intro l
          induction l with
          | nil => intro e _; rfl
          | cons y l ih =>
            intro e he
            simp only [toDs] at he
            split at he
            · rename_i d2 hd2
              split at he
              · rename_i e2 he2
                have hy : y.refs = [] := by
                  cases y with
                  | d y => rfl
                  | agg cs => simp only [toD] at hd2; split at hd2
                              · rename_i q; simp [AV.refs, dL_refs q]
                              · cases hd2
                  | _ => simp [toD] at hd2
                simp [AV.refsL, hy, ih he2]
              · cases he
            · cases he
        have h0 := h (by simp [AV.refsL, hx, hxs hds])
        simp only [RVs] at h0
        obtain ⟨v, vs', rfl, h1, h2⟩ := h0
        obtain ⟨k1, k2⟩ := toDs_RD hds (fun _ => h2)
        refine ⟨by simp [k1], fun i d' v' a b => ?_⟩
        cases i with
        | zero => simp at a b; subst a; subst b; exact toD_RD hd fun _ => h1
        | succ i => simp at a b; exact k2 i d' v' a b

end
end Go.Vi
