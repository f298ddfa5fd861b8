/- Rows of the run's own: made, appended to. -/
import Derived.Test.YtdkaahhcejipjaaOVi8
import Derived.Laws.MakeOwn
set_option linter.unusedVariables false
set_option linter.unusedSimpArgs false
set_option linter.unnecessarySimpa false
set_option linter.unusedSectionVars false
namespace Go.Vi
open Go Go.RowKit
section
variable {P : Program} {call : FuncId → List AV → List (Option Obj) → Option CRes} {loop : Nat → St → Option (Out × St)}
variable {s : St} {a : Act} {w : World} {L : Loc} {Z : Nat → Prop}

/-- Elements, as a plain run of cells. -/
def Cat (w : World) (Z : Nat → Prop) (sz : Nat) : List D → List Value → Prop
  | [], cs => cs = []
  | x :: xs, cs => ∃ c1 c2, cs = c1 ++ c2 ∧ c1.length = sz ∧ RD w Z x c1 ∧ Cat w Z sz xs c2

theorem Cat_len {sz : Nat} : ∀ {xs : List D} {cs : List Value}, Cat w Z sz xs cs → cs.length = xs.length * sz
  | [], cs, h => by simp only [Cat] at h; simp [h]
  | x :: xs, cs, h => by
    simp only [Cat] at h
    obtain ⟨c1, c2, rfl, h1, _, h2⟩ := h
    simp [h1, Cat_len h2, Nat.succ_mul, Nat.add_comm]

theorem Cat_append {sz : Nat} : ∀ {xs ys : List D} {cs ds : List Value}, Cat w Z sz xs cs → Cat w Z sz ys ds → Cat w Z sz (xs ++ ys) (cs ++ ds)
  | [], ys, cs, ds, h, k => by simp only [Cat] at h; subst h; simpa using k
  | x :: xs, ys, cs, ds, h, k => by
    simp only [Cat] at h
    obtain ⟨c1, c2, rfl, h1, h2, h3⟩ := h
    simp only [List.cons_append, Cat]
    exact ⟨c1, c2 ++ ds, by simp, h1, h2, Cat_append h3 k⟩

theorem Cat_mono {w' : World} {Z' : Nat → Prop} (hz : ZLe w w' Z Z') {sz : Nat} : ∀ {xs : List D} {cs : List Value}, Cat w Z sz xs cs → Cat w' Z' sz xs cs
  | [], cs, h => by simpa only [Cat] using h
  | x :: xs, cs, h => by
    simp only [Cat] at h ⊢
    obtain ⟨c1, c2, h0, h1, h2, h3⟩ := h
    exact ⟨c1, c2, h0, h1, RD_mono hz x _ h2, Cat_mono hz h3⟩

theorem Cat_one {sz : Nat} : ∀ {xs : List D} {cs : List Value}, Cat w Z sz xs cs → ∀ v ∈ cs, v.oneCell' = true
  | [], cs, h, v, hv => by simp only [Cat] at h; subst h; cases hv
  | x :: xs, cs, h, v, hv => by
    simp only [Cat] at h
    obtain ⟨c1, c2, rfl, h1, h2, h3⟩ := h
    rcases List.mem_append.1 hv with hv | hv
    · obtain ⟨k1, k2⟩ := RDs_iff.1 (RD_cells h2)
      obtain ⟨i, hi⟩ := List.getElem?_of_mem hv
      have hlt : i < x.cells.length := by rw [k1]; exact (List.getElem?_eq_some_iff.1 hi).1
      exact RD_one (k2 i _ v (List.getElem?_eq_getElem hlt) hi)
    · exact Cat_one h3 v hv

/-- A row is its elements' run of cells, each there. -/
theorem Rows_cat {b sz : Nat} : ∀ {xs : List D} {o : Nat}, Rows w Z xs b o sz → ∃ cs, Cat w Z sz xs cs ∧ ∀ j v, cs[j]? = some v → w.cell? ⟨b, o + j, none⟩ = some v
  | [], o, _ => ⟨[], by simp only [Cat], by simp⟩
  | x :: xs, o, h => by
    simp only [Rows] at h
    obtain ⟨⟨c1, h1, h2, h3⟩, h4⟩ := h
    obtain ⟨c2, h5, h6⟩ := Rows_cat h4
    refine ⟨c1 ++ c2, by simp only [Cat]; exact ⟨c1, c2, rfl, h1, h2, h5⟩, fun j v hj => ?_⟩
    rw [List.getElem?_append] at hj
    split at hj
    · exact h3 j v hj
    · have := h6 _ v hj
      rw [show o + sz + (j - c1.length) = o + j by omega] at this
      exact this

theorem cat_Rows {b sz : Nat} : ∀ {xs : List D} {o : Nat} {cs : List Value}, Cat w Z sz xs cs → (∀ j v, cs[j]? = some v → w.cell? ⟨b, o + j, none⟩ = some v) → Rows w Z xs b o sz
  | [], o, cs, _, _ => by simp only [Rows]
  | x :: xs, o, cs, h, hc => by
    simp only [Cat] at h
    obtain ⟨c1, c2, rfl, h1, h2, h3⟩ := h
    simp only [Rows]
    refine ⟨⟨c1, h1, h2, fun j v hj => hc j v ?_⟩, cat_Rows h3 fun j v hj => ?_⟩
    · rw [List.getElem?_append_left (List.getElem?_eq_some_iff.1 hj).1]; exact hj
    · have := hc (sz + j) v (by rw [List.getElem?_append_right (by omega), h1]; simpa using hj)
      rw [show o + (sz + j) = o + sz + j by omega] at this
      exact this

theorem Cat_replicate {sz : Nat} {x : D} {cs : List Value} (h : RD w Z x cs) (hl : cs.length = sz) : ∀ n, Cat w Z sz (List.replicate n x) (List.replicate n cs).flatten
  | 0 => by simp only [List.replicate, List.flatten_nil, Cat]
  | n + 1 => by
    simp only [List.replicate_succ, List.flatten_cons, Cat]
    exact ⟨cs, _, rfl, hl, h, Cat_replicate h hl n⟩

/-- A new row in a new block. -/
theorem newRow_tr {np t : Nat} {s' : St} {w' : World} {e sz : Nat} {xs : List D} {cells : Array Value} {cs : List Value} (h : RS s a w L Z) (hl : s.lay t [some (.rows (e, sz) xs)] = some s') (ht : t < np)
    (hw : w'.heap = w.heap.push (.cells cells e)) (hos : w'.os = w.os) (htp : w'.tape = w.tape) (hop : w'.output = w.output)
    (hcat : Cat w Z sz xs cs) (hpre : ∀ (j : Nat) (v : Value), cs[j]? = some v → cells[j]? = some v) (hcap : xs.length * sz ≤ cells.size) :
    ∃ L', RS s' a w' L' Z ∧ Tr np s.sto s'.sto w w' L L' Z Z ∧ L' (t, 0) = some w.heap.size ∧ s'.sto.get (t, 0) = some (.rows (e, sz) xs) ∧ blkSize w' w.heap.size = cells.size := by
  have hnew : w'.heap[w.heap.size]? = some (.cells cells e) := by rw [hw]; simp
  obtain ⟨L', h1, h2, h3, _, _⟩ := alloc_tr (w' := w') (o := .cells cells e) h hl ht hw hos htp hop (fun c h1 h2 h3 h4 h5 => by
    simp only [RO]
    refine ⟨fun k => (by rw [h3] at k; cases k), fun b hb => ?_⟩
    have : w.heap.size = b := by have : some w.heap.size = some b := h3.symm.trans hb; injection this
    subst this
    refine ⟨cells, by rw [h1]; exact hnew, hcap, ?_⟩
    refine cat_Rows (Cat_mono (w := w) (Z := Z) (by rw [h1, h2] at *; exact h5) hcat) fun j v hj => ?_
    rw [h1]
    simp only [World.cell?, hnew, Nat.zero_add]
    simpa using hpre j v hj)
  refine ⟨L', h1, h2, h3, ?_, by simp [blkSize, hnew]⟩
  have hget := lay_get (show s.sto.lay t [some (.rows (e, sz) xs)] = some s'.sto by
    unfold St.lay at hl; split at hl
    · rename_i sto e; injection hl with hl; subst hl; exact e
    · cases hl) (t, 0)
  rw [hget]; simp

theorem zero_RD {c : Cx} : ∀ {vs : List Value} {as : List AV} {ds : List D}, valOkL vs as = true → dZ as = some ds → RDs c.w c.Z ds vs
  | [], [], ds, _, e => by simp only [dZ] at e; injection e with e; subst e; simp only [RDs]
  | v :: vs, x :: as, ds, h, e => by
    simp only [valOkL, Bool.and_eq_true] at h
    have h1 := valOk1_sound (c := c) h.1
    cases x with
    | d y =>
      simp only [dZ] at e
      split at e
      · rename_i ys e2
        injection e with e; subst e
        simp only [RV] at h1
        simp only [RDs]
        exact ⟨v, vs, rfl, h1, zero_RD h.2 e2⟩
      · cases e
    | emp =>
      simp only [dZ] at e
      split at e
      · rename_i ys e2
        injection e with e; subst e
        simp only [RV] at h1
        obtain ⟨A, h1⟩ := h1
        simp only [RDs]
        refine ⟨v, vs, rfl, ?_, zero_RD h.2 e2⟩
        simp only [RD]
        exact ⟨A, 0, by rw [h1]; rfl, Nat.le_refl _, .inl trivial⟩
      · cases e
    | _ => simp [dZ] at e
  | [], _ :: _, _, h, _ => by simp [valOkL] at h
  | _ :: _, [], _, h, _ => by simp [valOkL] at h

theorem wrap_id {n : Int} (h0 : 0 ≤ n) (h1 : n ≤ 9223372036854775807) : IntKind.i64.wrap n = n := by
  have h2 : n % (18446744073709551616 : Int) = n := Int.emod_eq_of_lt h0 (by omega)
  show (if (true && decide (n % (18446744073709551616 : Int) ≥ (9223372036854775808 : Int))) = true then n % (18446744073709551616 : Int) - (18446744073709551616 : Int) else n % (18446744073709551616 : Int)) = n
  rw [h2]
  rw [if_neg (by simp; omega)]

theorem range_zero (z : Array Value) (n : Nat) (hz : 0 < z.size) : ((Array.range (n * z.size)).map (fun i => z[i % z.size]!)).toList = (List.replicate n z.toList).flatten := by
  induction n with
  | zero => simp
  | succ n ih =>
    rw [List.replicate_succ', List.flatten_append, ← ih]
    apply List.ext_getElem?
    intro j
    simp only [Array.toList_map, Array.toList_range, List.getElem?_map, List.flatten_cons, List.flatten_nil, List.append_nil, List.getElem?_append, List.length_map, List.length_range, Array.length_toList]
    by_cases h1 : j < n * z.size
    · have h2 : j < (n + 1) * z.size := by rw [Nat.succ_mul]; omega
      simp [h1, h2]
    · by_cases h2 : j < (n + 1) * z.size
      · have h3 : j - n * z.size < z.size := by rw [Nat.succ_mul] at h2; omega
        have h4 : j % z.size = j - n * z.size := by
          rw [show j = (j - n * z.size) + n * z.size by omega, Nat.add_mul_mod_self_right, Nat.mod_eq_of_lt h3]
          omega
        simp [h1, h2, h4, h3]
      · have h3 : ¬ j - n * z.size < z.size := by rw [Nat.succ_mul] at h2; omega
        simp [h1, h2, h3]

theorem goes_makeSlice {np t : Nat} {s' : St} {o : Oper} {ty e : TypeId} {i : TypeInfo} {z : Value} {x y : Operand} {x' y' : VX} {agg : Bool} {zero : List AV} {ds : List D} {zd : D} {k k' : IntKind} {l c : Int}
    (h : RS s a w L Z) (ho : o.op = .makeSlice ty x y) (hx : okX x x' = true) (hy : okX y y' = true) (hu : P.underlying ty = some (.slice e)) (hi : P.info? e = some i) (hz : i.zero = some z) (hzs : z.cells.size = i.size) (hpos : 0 < i.size)
    (hok : valOkL z.cells.toList zero = true) (hds : dZ zero = some ds) (hzd : D.ofCells agg ds = some zd) (e1 : ev s.env x' = some (.d (.int k l))) (e2 : ev s.env y' = some (.d (.int k' c)))
    (heq : (real call loop).cmp .eql l c = true) (hfit : (real call loop).fitsN i.bytes c = true) (ht : t < np)
    (hl : s.lay t [some (.rows (e, i.size) ((real call loop).rep c zd))] = some s') : Goes P np o s a w L Z (.arr (t, 0) (e, i.size) none true) s' := by
  have h1 := ev_sound h hx e1
  have h2 := ev_sound h hy e2
  simp only [RV, RD, List.cons.injEq, and_true] at h1 h2
  simp only [real, Ora.cmp, cmpI, beq_iff_eq] at heq
  subst heq
  simp only [real, Ora.fitsN] at hfit
  obtain ⟨f1, f2, f3⟩ := of_decide_eq_true hfit
  have hw := wrap_id f1 f3
  have hcat : Cat w Z i.size ((real call loop).rep l zd) (List.replicate l.toNat z.cells.toList).flatten := by
    have hrd : RD w Z zd z.cells.toList := by
      apply RD_of_cells
      rw [D_ofCells hzd]
      exact zero_RD (c := ⟨w, Z, L, s.sto.get⟩) hok hds
    exact Cat_replicate hrd (by simp [hzs]) l.toNat
  have hlen : ((real call loop).rep l zd).length = l.toNat := by simp [real, Ora.rep]
  have hcells := range_zero z.cells l.toNat (by omega)
  obtain ⟨L', k1, k2, k3, k4, k5⟩ := newRow_tr (cells := (Array.range (l.toNat * z.cells.size)).map (fun j => z.cells[j % z.cells.size]!)) (w' := { w with heap := w.heap.push (.cells ((Array.range (l.toNat * z.cells.size)).map (fun j => z.cells[j % z.cells.size]!)) e) }) h hl ht rfl rfl rfl rfl hcat
    (fun j v hj => by rw [← hcells] at hj; rw [← Array.getElem?_toList]; exact hj) (by simp [hlen, hzs])
  have hb : ¬ ((i.bytes : Int) * l > 281474976710656) := by
    have : (i.bytes : Int) * l = l * i.bytes := Int.mul_comm _ _
    omega
  refine Goes.value (u := .slice (some ⟨w.heap.size, 0, none⟩) l.toNat l.toNat) (run_v (m := Instr.makeSlice ty (a.eval x) (a.eval y)) (by unfold execOp; rw [ho]) ?_) k1 k2 ?_
  · rw [h1, h2]
    have := run_make (P := P) w ty e i z hu hi hz k k' l l f1 (Int.le_refl _) (by omega) f3
    rw [this]
    simp only [World.alloc, madeCells, hzs]
  · simp only [RV]
    refine ⟨_, l.toNat, l.toNat, _, rfl, ⟨Nat.le_refl _, by unfold maxLen; omega⟩, fun _ => rfl, rw_of k4, fun _ => hlen.symm, fun x m e => (by cases e), fun e => (by rw [k3] at e; cases e), fun b hb => ?_⟩
    have : w.heap.size = b := by have : some w.heap.size = some b := k3.symm.trans hb; injection this
    subst this
    right
    refine ⟨by simp [rngOff], ?_⟩
    rw [k5]; simp [rngOff, hzs]

end
end Go.Vi
