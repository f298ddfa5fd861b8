/- Literals; slices of slices and of texts; texts of bytes. -/
import Derived.Test.YtdkaahhcejipjaaOVi11
import Derived.Laws.IdiomStrings
import Derived.Laws.BytesArg
set_option linter.unusedVariables false
set_option linter.unusedSimpArgs false
set_option linter.unnecessarySimpa false
set_option linter.unusedSectionVars false
namespace Go.Vi
open Go Go.RowKit
section
variable {P : Program} {call : FuncId → List AV → List (Option Obj) → Option CRes} {loop : Nat → St → Option (Out × St)}
variable {s : St} {a : Act} {w : World} {L : Loc} {Z : Nat → Prop}

theorem fill_step {place : Nat → Option (Nat × Nat)} {cells : Array Value} {i : Nat} {v : Value} {rest : List (Nat × Value)} {off : Nat} (hp : place i = some (off, v.cells.size)) (hb : off + v.cells.size ≤ cells.size) :
    Instr.fill place cells ((i, v) :: rest) = Instr.fill place (cells.toList.take off ++ v.cells.toList ++ cells.toList.drop (off + v.cells.toList.length)).toArray rest := by
  have hfold : v.cells.zipIdx.foldl (fun cs (p : Value × Nat) => cs.setIfInBounds (off + p.2) p.1) cells = (cells.toList.take off ++ v.cells.toList ++ cells.toList.drop (off + v.cells.toList.length)).toArray := by
    apply Array.ext'
    rw [← Array.foldl_toList, Array.toList_zipIdx]
    have := fold_list off v.cells.toList 0 cells (by simpa using hb)
    simp only [Nat.add_zero] at this
    rw [this]
  simp only [Instr.fill, hp]
  rw [if_neg (by simp; omega)]
  rw [show (v.cells.zipIdx.foldl (fun cs (x : Value × Nat) => match x with | (c, j) => cs.setIfInBounds (off + j) c) cells) = _ from hfold]

theorem Cat_set {sz : Nat} : ∀ {xs : List D} {cs : List Value} (i : Nat) {x : D} {us : List Value}, Cat w Z sz xs cs → i < xs.length → RD w Z x us → us.length = sz →
    Cat w Z sz (xs.set i x) (cs.take (i * sz) ++ us ++ cs.drop (i * sz + us.length))
  | [], _, i, _, _, _, h, _, _ => by simp at h
  | y :: ys, cs, 0, x, us, h, _, hx, hl => by
    simp only [Cat] at h
    obtain ⟨c1, c2, rfl, h1, h2, h3⟩ := h
    simp only [List.set_cons_zero, Cat, Nat.zero_mul, List.take_zero, List.nil_append, Nat.zero_add]
    exact ⟨us, c2, by rw [hl, ← h1, List.drop_left], hl, hx, h3⟩
  | y :: ys, cs, i + 1, x, us, h, hi, hx, hl => by
    simp only [Cat] at h
    obtain ⟨c1, c2, rfl, h1, h2, h3⟩ := h
    have ih := Cat_set i h3 (by simpa using hi) hx hl
    simp only [List.set_cons_succ, Cat]
    refine ⟨c1, _, ?_, h1, h2, ih⟩
    have e1 : (i + 1) * sz = c1.length + i * sz := by rw [Nat.succ_mul, h1]; omega
    rw [e1, List.take_length_add_append, show c1.length + i * sz + us.length = c1.length + (i * sz + us.length) by omega, List.drop_length_add_append]
    simp

theorem fillD_fill {sz : Nat} : ∀ {ps : List (Nat × Value)} {ds : List D} {xs xs' : List D} {cells : Array Value}, ds.length = ps.length →
    (∀ (i : Nat) (d : D) (v : Value), ds[i]? = some d → (ps.map (·.2))[i]? = some v → RD w Z d v.cells.toList) → Cat w Z sz xs cells.toList → fillD sz xs ((ps.map (·.1)).zip ds) = some xs' →
    ∃ cells', Instr.fill (fun i => some (i * sz, sz)) cells ps = some cells' ∧ Cat w Z sz xs' cells'.toList
  | [], ds, xs, xs', cells, hl, _, hc, e => by
    simp only [List.map_nil, List.zip_nil_left, fillD] at e
    injection e with e; subst e
    exact ⟨cells, rfl, hc⟩
  | (i, v) :: ps, [], xs, xs', cells, hl, _, hc, e => by simp at hl
  | (i, v) :: ps, d :: ds, xs, xs', cells, hl, hr, hc, e => by
    simp only [List.map_cons, List.zip_cons_cons, fillD] at e
    split at e
    case isFalse => cases e
    case isTrue hcond =>
      simp only [Bool.and_eq_true, decide_eq_true_eq, beq_iff_eq] at hcond
      obtain ⟨hi, hsz⟩ := hcond
      have hd := hr 0 d v rfl rfl
      have hlen : v.cells.toList.length = sz := by rw [RD_len hd, hsz]
      have hcl := Cat_len hc
      have hb : i * sz + v.cells.size ≤ cells.size := by
        have : (i + 1) * sz ≤ xs.length * sz := Nat.mul_le_mul_right _ hi
        rw [Nat.succ_mul] at this
        simp at hlen hcl
        omega
      rw [fill_step (off := i * sz) (by simp at hlen; rw [hlen]) hb]
      exact fillD_fill (by simpa using hl) (fun j d' v' p q => hr (j + 1) d' v' (by simpa using p) (by simpa using q)) (Cat_set i hc hi hd hlen) e

/-- A literal's parts. -/
def okElems : List (Nat × Operand) → List (Nat × VX) → Bool
  | [], [] => true
  | (i, x) :: l, (j, y) :: r => i == j && okX x y && okElems l r
  | _, _ => false

theorem elems_sound (h : RS s a w L Z) : ∀ {ps : List (Nat × Operand)} {qs : List (Nat × VX)} {r : List (Nat × AV)}, okElems ps qs = true → evElems s.env qs = some r →
    r.map (·.1) = ps.map (·.1) ∧ RVs (cxOf w Z L s.sto) (r.map (·.2)) (ps.map fun p => a.eval p.2)
  | [], [], r, _, e => by simp only [evElems] at e; injection e with e; subst e; simp [RVs]
  | (i, x) :: ps, (j, y) :: qs, r, hk, e => by
    simp only [okElems, Bool.and_eq_true, beq_iff_eq] at hk
    obtain ⟨⟨rfl, h1⟩, h2⟩ := hk
    simp only [evElems] at e
    split at e
    case h_2 => cases e
    case h_1 u e1 =>
      split at e
      case h_2 => cases e
      case h_1 r' e2 =>
        injection e with e; subst e
        obtain ⟨k1, k2⟩ := elems_sound h h2 e2
        simp only [List.map_cons, k1, true_and, RVs]
        exact ⟨_, _, rfl, ev_sound h h1 e1, k2⟩
  | [], _ :: _, _, hk, _ => by simp [okElems] at hk
  | _ :: _, [], _, hk, _ => by simp [okElems] at hk

theorem goes_buildSlice {np t : Nat} {s' : St} {o : Oper} {ty e : TypeId} {i : TypeInfo} {z : Value} {agg : Bool} {zero : List AV} {len : Nat} {ps : Array (Nat × Operand)} {qs : List (Nat × VX)} {r : AV}
    (h : RS s a w L Z) (ho : o.op = .buildSlice ty len ps) (hp : okElems ps.toList qs = true) (hu : P.underlying ty = some (.slice e)) (hi : P.info? e = some i) (hz : i.zero = some z) (hzs : z.cells.size = i.size) (hpos : 0 < i.size)
    (hok : valOkL z.cells.toList zero = true) (hbig : len * i.size ≤ 2 ^ 24) (ht : t < np)
    (es : doOp (real call loop) s (some t) (.buildSlice (e, i.size) agg zero len qs) = some (r, s')) : Goes P np o s a w L Z r s' := by
  simp only [doOp] at es
  split at es
  case h_2 => cases es
  case h_1 vs t' hev ht' =>
    injection ht' with ht'; subst ht'
    split at es
    case isFalse => cases es
    case isTrue =>
      split at es
      case h_2 => cases es
      case h_1 dz hdz =>
        split at es
        case h_2 => cases es
        case h_1 zd hzd =>
          split at es
          case h_2 => cases es
          case h_1 as s2 hfz =>
            split at es
            case h_2 => cases es
            case h_1 ds hds =>
              obtain ⟨m1, m2⟩ := elems_sound h hp hev
              obtain ⟨Z', f1, f2, f3, f4⟩ := fzL_sound np (vs.map (·.2)) _ s s2 as Z h (Kept.refl _ _ _ _) m2 hfz
              obtain ⟨q1, q2⟩ := toDs_RD hds f4
              have hcat0 : Cat w Z' i.size (List.replicate len zd) ((Array.range (len * i.size)).map (fun j => z.cells[j % z.cells.size]!)).toList := by
                have hrd : RD w Z' zd z.cells.toList := by
                  apply RD_of_cells
                  rw [D_ofCells hzd]
                  exact zero_RD (c := ⟨w, Z', L, s2.sto.get⟩) hok hdz
                have := range_zero z.cells len (by omega)
                rw [hzs] at this ⊢
                rw [this]
                exact Cat_replicate hrd (by simp [hzs]) len
              have hidx : vs.map (·.1) = ((ps.map fun p => (p.1, a.eval p.2)).toList).map (·.1) := by rw [m1]; simp
              have hrun : ∀ {cells' : Array Value}, Instr.fill (fun i_1 => some (i_1 * i.size, i.size)) ((Array.range (len * i.size)).map (fun j => z.cells[j % z.cells.size]!)) ((ps.map fun p => (p.1, a.eval p.2)).toList) = some cells' →
                  (execOp a.eval o).run P w = .ok (.value (.slice (some ⟨w.heap.size, 0, none⟩) len len)) { w with heap := w.heap.push (.cells cells' e) } := by
                intro cells' hfill
                refine run_v (m := Instr.buildSlice ty len (ps.map fun p => (p.1, a.eval p.2))) (by unfold execOp; rw [ho]) ?_
                unfold Instr.buildSlice
                by_cases h0 : len * i.size = 0
                · have e0 : (Array.range (len * i.size)).map (fun j => z.cells[j % z.cells.size]!) = #[] := by rw [h0]; simp
                  rw [e0] at hfill
                  have hfill' : Instr.fill (fun i_1 => some (i_1 * i.size, i.size)) #[] (List.map (fun p => (p.fst, a.eval p.snd)) ps.toList) = some cells' := by simpa using hfill
                  simp only [Sem.run_bind, run_underlying hu, Result.andThen, sizeOf, typeInfo, Sem.run_pure]
                  have e1 : Array.map (fun _ => (default : Value)) (Array.range 0) = #[] := Array.ext' (by simp)
                  simp [hi, h0, newRow, e1, hfill']
                · have hn : ¬ (len * i.size > 16777216) := by omega
                  simp only [Sem.run_bind, run_underlying hu, Result.andThen, sizeOf, typeInfo, Sem.run_pure]
                  have hfill' := hfill
                  simp only [Array.toList_map] at hfill'
                  simp [hi, h0, hn, newRow, zeroValue, typeInfo, hz, hfill']
              have hds0 : ds.length = ((ps.map fun p => (p.1, a.eval p.2)).toList).length := by rw [q1]; simp
              have hval : ∀ (j : Nat) (d : D) (v : Value), ds[j]? = some d → (((ps.map fun p => (p.1, a.eval p.2)).toList).map (·.2))[j]? = some v → RD w Z' d v.cells.toList := by
                intro j d v p q
                refine q2 j d v p ?_
                simpa using q
              rw [hidx] at es
              split at es
              case h_3 => cases es
              case h_1 hfill =>
                injection es with es; injection es with es1 es2; subst es1; subst es2
                obtain ⟨cells', c1, c2⟩ := fillD_fill hds0 hval hcat0 hfill
                have hl0 : len = 0 := by
                  have : ∀ {ps : List (Nat × D)} {xs : List D}, fillD i.size xs ps = some [] → xs = [] := by
                    intro ps
                    induction ps with
                    | nil => intro xs e; simpa [fillD] using e
                    | cons p ps ih =>
                      intro xs e
                      obtain ⟨p1, p2⟩ := p
                      simp only [fillD] at e
                      split at e
                      · have := ih e; simpa using this
                      · cases e
                  have := this hfill
                  simpa using this
                obtain ⟨k1, k2, _⟩ := RS.push f1 np (w' := { w with heap := w.heap.push (.cells cells' e) }) rfl rfl rfl rfl
                refine Goes.value (hrun c1) k1 (f2.trans k2) ?_
                rw [hl0]
                simp only [RV]
                exact ⟨_, rfl⟩
              case h_2 x xs hfill =>
                obtain ⟨cells', c1, c2⟩ := fillD_fill hds0 hval hcat0 hfill
                split at es
                case h_2 => cases es
                case h_1 s3 hl =>
                  injection es with es; injection es with es1 es2; subst es1; subst es2
                  have hlen : (x :: xs).length = len := by
                    have : ∀ {ps : List (Nat × D)} {xs ys : List D}, fillD i.size xs ps = some ys → ys.length = xs.length := by
                      intro ps
                      induction ps with
                      | nil => intro xs ys e; simp only [fillD] at e; injection e with e; rw [e]
                      | cons p ps ih =>
                        intro xs ys e
                        obtain ⟨p1, p2⟩ := p
                        simp only [fillD] at e
                        split at e
                        · have := ih e; simpa using this
                        · cases e
                    have := this hfill
                    simpa using this
                  have hcl := Cat_len c2
                  obtain ⟨L', k1, k2, k3, k4, k5⟩ := newRow_tr (np := np) (cells := cells') (w' := { w with heap := w.heap.push (.cells cells' e) }) f1 hl ht rfl rfl rfl rfl c2 (fun j v hj => by rw [← Array.getElem?_toList]; exact hj) (by simp at hcl ⊢; omega)
                  refine Goes.value (hrun c1) k1 (f2.trans k2) ?_
                  simp only [RV]
                  have hmax : len ≤ maxLen := by
                    have : len ≤ len * i.size := Nat.le_mul_of_pos_right _ hpos
                    unfold maxLen; omega
                  refine ⟨_, len, len, x :: xs, rfl, ⟨Nat.le_refl _, hmax⟩, fun _ => rfl, rw_of k4, fun _ => hlen.symm, fun x m e => (by cases e), fun e => (by rw [k3] at e; cases e), fun b hb => ?_⟩
                  have : w.heap.size = b := by have : some w.heap.size = some b := k3.symm.trans hb; injection this
                  subst this
                  right
                  refine ⟨by simp [rngOff], ?_⟩
                  rw [k5]; simp [rngOff]; simp at hcl; rw [hcl, ← hlen]; simp

end
end Go.Vi
