/- More operations that turn nothing. -/
import Derived.Test.YtdkaahhcejipjaaOVi5
set_option linter.unusedVariables false
set_option linter.unusedSimpArgs false
set_option linter.unnecessarySimpa false
set_option linter.unusedSectionVars false
namespace Go.Vi
open Go Go.RowKit
def aggD : TypeDesc → Bool
  | .struct _ => true
  | .array _ _ => true
  | _ => false

theorem run_isAggD {P : Program} {t : TypeId} {d : TypeDesc} (hd : P.underlying t = some d) (w : World) : (isAgg t).run P w = .ok (aggD d) w := by
  unfold isAgg
  rw [Sem.run_bind, run_underlying hd]
  cases d <;> rfl

section
variable {P : Program} {call : FuncId → List AV → List (Option Obj) → Option CRes} {loop : Nat → St → Option (Out × St)}
variable {s : St} {a : Act} {w : World} {L : Loc} {Z : Nat → Prop}

theorem add_plain (b o n : Nat) : (⟨b, o, none⟩ : Addr).add n = ⟨b, o + n, none⟩ := by
  unfold Addr.add; split
  · rename_i h; subst h; rfl
  · rfl

theorem goes_neg (np : Nat) (h : RS s a w L Z) {o : Oper} {t : TypeId} {x : Operand} {x' : VX} (ho : o.op = .unOp .neg t x) (hx : okX x x' = true) {k : IntKind} {n : Int}
    (e : ev s.env x' = some (.d (.int k n))) : Goes P np o s a w L Z (.d (.int k (arI .sub k 0 n))) s := by
  have h1 := ev_sound h hx e
  simp only [RV, RD, List.cons.injEq, and_true] at h1
  refine Goes.pure h (run_v (m := Op.unary .neg (a.eval x)) (by unfold execOp; rw [ho]) (by rw [h1]; rfl)) (by simp only [RV, RD, arI])

theorem goes_not (np : Nat) (h : RS s a w L Z) {o : Oper} {t : TypeId} {x : Operand} {x' : VX} (ho : o.op = .unOp .not t x) (hx : okX x x' = true) {b : Bool}
    (e : ev s.env x' = some (.d (.bool b))) : Goes P np o s a w L Z (.d (.bool (!b))) s := by
  have h1 := ev_sound h hx e
  simp only [RV, RD, List.cons.injEq, and_true] at h1
  refine Goes.pure h (run_v (m := Op.unary .not (a.eval x)) (by unfold execOp; rw [ho]) (by rw [h1]; rfl)) (by simp only [RV, RD])

theorem goes_convInt (np : Nat) (h : RS s a w L Z) {o : Oper} {t t' : TypeId} {x : Operand} {x' : VX} (ho : o.op = .convert t t' x) (hx : okX x x' = true) {k k' : IntKind} {n : Int}
    (h2 : ∃ j, P.underlying t = some (.int j)) (h3 : P.underlying t' = some (.int k'))
    (e : ev s.env x' = some (.d (.int k n))) : Goes P np o s a w L Z (.d (.int k' (k'.wrap n))) s := by
  have h1 := ev_sound h hx e
  simp only [RV, RD, List.cons.injEq, and_true] at h1
  obtain ⟨j, h2⟩ := h2
  refine Goes.pure h (run_v (m := convert t t' (a.eval x)) (by unfold execOp; rw [ho]) (u := .int k' (k'.wrap n)) ?_) (by simp only [RV, RD])
  rw [h1]
  simp [convert, run_underlying h2, run_underlying h3, Conv.intToInt]

theorem goes_convStr (np : Nat) (h : RS s a w L Z) {o : Oper} {t t' : TypeId} {x : Operand} {x' : VX} (ho : o.op = .convert t t' x) (hx : okX x x' = true) {n : ByteArray}
    (h2 : P.underlying t = some .string) (h3 : P.underlying t' = some .string)
    (e : ev s.env x' = some (.d (.str n))) : Goes P np o s a w L Z (.d (.str n)) s := by
  have h1 := ev_sound h hx e
  simp only [RV, RD, List.cons.injEq, and_true] at h1
  refine Goes.pure h (run_v (m := convert t t' (a.eval x)) (by unfold execOp; rw [ho]) (u := .string n) ?_) (by simp only [RV, RD])
  rw [h1]
  simp [convert, run_underlying h2, run_underlying h3]

theorem goes_mkfn (np : Nat) (h : RS s a w L Z) {o : Oper} {f : FuncId} {xs : Array Operand} {xs' : List VX} (ho : o.op = .makeFunc (.func f) #[] xs) (hx : okXL xs.toList xs' = true) {ys : List AV}
    (e : evL s.env xs' = some ys) : Goes P np o s a w L Z (.fn f ys) s := by
  have h1 := evL_sound h hx e
  refine Goes.pure h (run_v (m := Instr.makeFunc (.func f) (#[].map a.eval) (xs.map a.eval)) (u := .func (.func f) #[] (xs.map a.eval)) (by unfold execOp; rw [ho]) (by simp [Instr.makeFunc])) ?_
  simp only [RV]
  exact ⟨_, by rw [← Array.toList_map], h1⟩

theorem run_fieldPlace {f : Field} {i : TypeInfo} (hi : P.info? f.type = some i) (hs : i.size ≠ 0) (b o : Nat) : (fieldPlace ⟨b, o, none⟩ f).run P w = .ok ⟨b, o + f.offset, none⟩ w := by
  simp [fieldPlace, sizeOf, typeInfo, hi, hs, add_plain]

theorem goes_fieldAddr (np : Nat) (h : RS s a w L Z) {o : Oper} {t : TypeId} {x : Operand} {x' : VX} {f : Nat} {fs : Array Field} {fd : Field} {i : TypeInfo} (ho : o.op = .fieldAddr t x f) (hx : okX x x' = true)
    (hu : P.underlying t = some (.struct fs)) (hf : fs[f]? = some fd) (hi : P.info? fd.type = some i) (hs : i.size ≠ 0) {u r : AV} (e : ev s.env x' = some u)
    (er : (match u with | .ptr q k => some (AV.ptr q (k + fd.offset)) | .prow q z j n => some (.prow q z j (n + fd.offset)) | .sp cs k => some (.sp cs (k + fd.offset)) | _ => none) = some r) :
    Goes P np o s a w L Z r s := by
  have h1 := ev_sound h hx e
  have hrun : ∀ b k, a.eval x = .pointer (some ⟨b, k, none⟩) → (execOp a.eval o).run P w = .ok (.value (.pointer (some ⟨b, k + fd.offset, none⟩))) w := by
    intro b k hp
    refine run_v (m := Instr.fieldAt t (a.eval x) f) (by unfold execOp; rw [ho]) ?_
    rw [hp]
    simp [Instr.fieldAt, run_underlying hu, hf, Instr.sureAddr, run_fieldPlace hi hs]
  split at er
  · injection er with er; subst er
    simp only [RV] at h1
    obtain ⟨b, k1, k2, k3⟩ := h1
    exact Goes.pure h (hrun _ _ k3) (by simp only [RV]; exact ⟨b, k1, k2, rfl⟩)
  · injection er with er; subst er
    simp only [RV] at h1
    obtain ⟨b, k1, k2, k3, k4⟩ := h1
    exact Goes.pure h (hrun _ _ k4) (by simp only [RV]; exact ⟨b, k1, k2, k3, by rw [Nat.add_assoc]⟩)
  · injection er with er; subst er
    simp only [RV] at h1
    obtain ⟨b, k, vs, k1, k2, k3, k4⟩ := h1
    exact Goes.pure h (hrun _ _ k1) (by simp only [RV]; exact ⟨b, k, vs, by rw [Nat.add_assoc], k2, k3, k4⟩)
  · cases er

theorem cut_some {α : Type} {l r : List α} {off n : Nat} (e : cut l off n = some r) : off + n ≤ l.length ∧ r = (l.drop off).take n := by
  unfold cut at e
  split at e
  · injection e with e; exact ⟨by assumption, e.symm⟩
  · cases e

theorem cut_get {α : Type} {l r : List α} {off n : Nat} (e : cut l off n = some r) {i : Nat} {x : α} (hx : r[i]? = some x) : l[off + i]? = some x := by
  obtain ⟨_, rfl⟩ := cut_some e
  rw [List.getElem?_take] at hx
  split at hx
  · rwa [List.getElem?_drop] at hx
  · cases hx

theorem cut_len {α : Type} {l r : List α} {off n : Nat} (e : cut l off n = some r) : r.length = n := by
  obtain ⟨h, rfl⟩ := cut_some e
  simp; omega

/-- A row of values, cut. -/
theorem RVs_cut {c : Cx} {as bs : List AV} {vs : List Value} (h : RVs c as vs) {off n : Nat} (e : cut as off n = some bs) : RVs c bs ((vs.drop off).take n) := by
  rw [RVs_iff] at h ⊢
  obtain ⟨h1, h2⟩ := h
  obtain ⟨h3, h4⟩ := cut_some e
  refine ⟨by rw [cut_len e]; simp; omega, fun i x v hx hv => ?_⟩
  have k1 := cut_get e hx
  rw [List.getElem?_take] at hv
  split at hv
  · rw [List.getElem?_drop] at hv
    exact h2 _ x v k1 hv
  · cases hv

/-- What is loaded of cells: the cells, and what their value is. -/
theorem run_loadVar {t : TypeId} {i : TypeInfo} {d : TypeDesc} (hi : P.info? t = some i) (hd : P.underlying t = some d) {b o : Nat} {vs : List Value} (hl : vs.length = i.size)
    (hc : ∀ j v, vs[j]? = some v → w.cell? ⟨b, o + j, none⟩ = some v) :
    aggD d = true ∧ (loadVar t ⟨b, o, none⟩).run P w = .ok (.agg vs.toArray) w ∨
    aggD d = false ∧ ∀ v, vs = [v] → (loadVar t ⟨b, o, none⟩).run P w = .ok v w := by
  have hcells : (loadCells ⟨b, o, none⟩ vs.length).run P w = .ok vs.toArray w := run_loadCells_list w _ vs fun j v hj => by rw [add_plain]; exact hc j v hj
  cases hq : aggD d with
  | true =>
    left
    refine ⟨rfl, ?_⟩
    have hagg : (isAgg t).run P w = .ok true w := by rw [run_isAggD hd, hq]
    simp [loadVar, hagg, sizeOf, typeInfo, hi, ← hl, hcells]
  | false =>
    right
    refine ⟨rfl, fun v hv => ?_⟩
    subst hv
    have hagg : (isAgg t).run P w = .ok false w := by rw [run_isAggD hd, hq]
    have h0 := hc 0 v rfl
    simp at h0
    simp [loadVar, hagg, h0]

/-- What a place holds. -/
theorem loadAt_cells (hobj : ∀ r ob, s.sto.get r = some ob → RO (cxOf w Z L s.sto) r ob) {agg : Bool} {n : Nat} {p x : AV} {v : Value} (hv : RV (cxOf w Z L s.sto) p v) (e : loadAt (real call loop) s.sto agg n p = some x) :
    ∃ b o cs vs, v = .pointer (some ⟨b, o, none⟩) ∧ AV.ofCells agg cs = some x ∧ vs.length = n ∧ RVs (cxOf w Z L s.sto) cs vs ∧ ∀ j u, vs[j]? = some u → w.cell? ⟨b, o + j, none⟩ = some u := by
  have dl : ∀ {ds : List D} {vs : List Value}, RDs w Z ds vs → RVs (cxOf w Z L s.sto) (ds.map .d) vs := by
    intro ds vs h
    rw [RVs_iff]
    obtain ⟨h1, h2⟩ := RDs_iff.1 h
    refine ⟨by simpa using h1, fun i a u ha hu => ?_⟩
    rw [List.getElem?_map] at ha
    cases hd : ds[i]? with
    | none => simp [hd] at ha
    | some d => simp [hd] at ha; subst ha; simp only [RV]; exact h2 i d u hd hu
  have dcut : ∀ {ds es : List D} {vs : List Value} {off : Nat}, RDs w Z ds vs → cut ds off n = some es → RDs w Z es ((vs.drop off).take n) ∧ ((vs.drop off).take n).length = n := by
    intro ds es vs off h hc
    obtain ⟨h1, h2⟩ := RDs_iff.1 h
    obtain ⟨h3, h4⟩ := cut_some hc
    refine ⟨RDs_iff.2 ⟨by rw [cut_len hc]; simp; omega, fun i d u hd hu => ?_⟩, by simp; omega⟩
    have k1 := cut_get hc hd
    rw [List.getElem?_take] at hu
    split at hu
    · rw [List.getElem?_drop] at hu; exact h2 _ d u k1 hu
    · cases hu
  have tk : ∀ {vs : List Value} {off j : Nat} {u : Value}, ((vs.drop off).take n)[j]? = some u → vs[off + j]? = some u := by
    intro vs off j u hu
    rw [List.getElem?_take] at hu
    split at hu
    · rwa [List.getElem?_drop] at hu
    · cases hu
  unfold loadAt at e
  split at e
  · rename_i r off
    split at e
    case h_2 => cases e
    case h_1 cs hr =>
      split at e
      case h_2 => cases e
      case h_1 cs' hc =>
        have h1 := hobj r _ hr
        simp only [RO] at h1
        obtain ⟨b, vs, ty, h2, h3, h4⟩ := h1
        simp only [RV] at hv
        obtain ⟨b', _, h5, h6⟩ := hv
        have hb : b' = b := by
          have : some b' = some b := h5.symm.trans h2
          injection this
        subst hb
        refine ⟨b', off, cs', (vs.toList.drop off).take n, h6, e, ?_, RVs_cut h4 hc, fun j u hu => ?_⟩
        · have := (RVs_iff.1 h4).1
          obtain ⟨k1, _⟩ := cut_some hc
          simp at this ⊢; omega
        · have := tk hu
          simp only [World.cell?, h3]
          simpa using this
  · rename_i r sz i off
    split at e
    case h_2 => cases e
    case h_1 sz' xs hr =>
      split at e
      case isFalse => cases e
      case isTrue hsz =>
        split at e
        case h_2 => cases e
        case h_1 x' hx =>
          split at e
          case isFalse => cases e
          case isTrue hlen =>
            split at e
            case h_2 => cases e
            case h_1 cs' hc =>
              subst hsz
              have h1 := RO_rd hobj hr
              simp only [RV] at hv
              obtain ⟨b, _, h5, h6, h7⟩ := hv
              obtain ⟨vs, h8, h9, h10⟩ := h1.2 b h5
              simp only [real, Ora.elt, eltI] at hx
              rw [if_pos h6] at hx
              obtain ⟨cs, k1, k2, k3⟩ := Rows_iff.1 h10 _ _ hx
              obtain ⟨k4, k5⟩ := dcut (RD_cells k2) hc
              refine ⟨b, i.toNat * sz.2 + off, cs'.map .d, (cs.drop off).take n, h7, e, k5, dl k4, fun j u hu => ?_⟩
              have := k3 (off + j) u (tk hu)
              rw [Nat.zero_add] at this
              rw [Nat.add_assoc]
              exact this
  · rename_i cs off
    split at e
    case h_2 => cases e
    case h_1 cs' hc =>
      simp only [RV] at hv
      obtain ⟨b, k, vs, h1, h2, h3, h4⟩ := hv
      obtain ⟨k4, k5⟩ := dcut h3 hc
      refine ⟨b, k + off, cs'.map .d, (vs.drop off).take n, h1, e, k5, dl k4, fun j u hu => ?_⟩
      rw [Nat.add_assoc]
      exact h4 (off + j) u (tk hu)
  · cases e

theorem ofCells_false {cs : List AV} {x : AV} (h : AV.ofCells false cs = some x) : cs = [x] := by
  cases cs with
  | nil => simp [AV.ofCells] at h
  | cons y l => cases l with
    | nil => simp [AV.ofCells] at h; rw [h]
    | cons z l => simp [AV.ofCells] at h

theorem loadAt_sound (hobj : ∀ r ob, s.sto.get r = some ob → RO (cxOf w Z L s.sto) r ob) {t : TypeId} {i : TypeInfo} {d : TypeDesc} (hi : P.info? t = some i) (hd : P.underlying t = some d) {agg : Bool} (hagg : agg = aggD d)
    {p x : AV} {v : Value} (hv : RV (cxOf w Z L s.sto) p v) (e : loadAt (real call loop) s.sto agg i.size p = some x) :
    ∃ ad u, v = .pointer (some ad) ∧ (loadVar t ad).run P w = .ok u w ∧ RV (cxOf w Z L s.sto) x u := by
  obtain ⟨b, o, cs, vs, h1, h2, h3, h4, h5⟩ := loadAt_cells hobj hv e
  rcases run_loadVar (w := w) hi hd h3 h5 with ⟨k1, k2⟩ | ⟨k1, k2⟩
  · rw [← hagg] at k1
    subst k1
    simp only [AV.ofCells] at h2
    injection h2 with h2
    subst h2
    exact ⟨_, _, h1, k2, by simp only [RV]; exact ⟨vs, rfl, h4⟩⟩
  · rw [← hagg] at k1
    subst k1
    have h2' := ofCells_false h2
    subst h2'
    simp only [RVs] at h4
    obtain ⟨v', vs', m1, m2, m3⟩ := h4
    subst m3
    exact ⟨_, v', h1, k2 v' m1, m2⟩

theorem goes_load (np : Nat) (h : RS s a w L Z) {o : Oper} {t : TypeId} {i : TypeInfo} {d : TypeDesc} {x : Operand} {x' : VX} {agg : Bool} (ho : o.op = .load t x) (hx : okX x x' = true) (hi : P.info? t = some i) (hd : P.underlying t = some d)
    (hagg : agg = aggD d) {p r : AV} (e : ev s.env x' = some p) (er : loadAt (real call loop) s.sto agg i.size p = some r) : Goes P np o s a w L Z r s := by
  obtain ⟨ad, u, h1, h2, h3⟩ := loadAt_sound (P := P) h.obj hi hd hagg (ev_sound h hx e) er
  refine Goes.pure h (run_v (m := Instr.loadAt t (a.eval x)) (by unfold execOp; rw [ho]) (u := u) ?_) h3
  rw [h1]
  simp [Instr.loadAt, Instr.sureAddr, h2]

theorem goes_extract (np : Nat) (h : RS s a w L Z) {o : Oper} {x : Operand} {x' : VX} {i : Nat} (ho : o.op = .extract x i) (hx : okX x x' = true) {vs : List AV} {r : AV}
    (e : ev s.env x' = some (.tup vs)) (er : vs[i]? = some r) : Goes P np o s a w L Z r s := by
  have h1 := ev_sound h hx e
  simp only [RV] at h1
  obtain ⟨us, h2, h3⟩ := h1
  obtain ⟨h4, h5⟩ := RVs_iff.1 h3
  have hlt : i < us.length := by rw [← h4]; exact (List.getElem?_eq_some_iff.1 er).1
  refine Goes.pure h (run_v (m := Instr.extract (a.eval x) i) (by unfold execOp; rw [ho]) (u := us[i]) ?_) (h5 i r _ er (List.getElem?_eq_getElem hlt))
  rw [h2]
  simp [Instr.extract, hlt]

theorem goes_field (np : Nat) (h : RS s a w L Z) {o : Oper} {t : TypeId} {x : Operand} {x' : VX} {f : Nat} {fs : Array Field} {fd : Field} {i : TypeInfo} {d : TypeDesc} {agg : Bool} (ho : o.op = .field t x f) (hx : okX x x' = true)
    (hu : P.underlying t = some (.struct fs)) (hf : fs[f]? = some fd) (hi : P.info? fd.type = some i) (hd : P.underlying fd.type = some d) (hagg : agg = aggD d)
    {cs cs' : List AV} {r : AV} (e : ev s.env x' = some (.agg cs)) (ec : cut cs fd.offset i.size = some cs') (er : AV.ofCells agg cs' = some r) : Goes P np o s a w L Z r s := by
  have h1 := ev_sound h hx e
  simp only [RV] at h1
  obtain ⟨vs, h2, h3⟩ := h1
  have h4 := RVs_cut h3 ec
  have hlen := (RVs_iff.1 h3).1
  obtain ⟨k1, _⟩ := cut_some ec
  have hrun : ∀ {u : Value}, (part fd.type vs.toArray fd.offset).run P w = .ok u w → (execOp a.eval o).run P w = .ok (.value u) w := by
    intro u hu'
    refine run_v (m := Instr.field t (a.eval x) f) (by unfold execOp; rw [ho]) ?_
    rw [h2]
    simp [Instr.field, run_underlying hu, hf, asAgg, hu']
  cases agg with
  | true =>
    have hagg' : (isAgg fd.type).run P w = .ok true w := by rw [run_isAggD hd, ← hagg]
    simp only [AV.ofCells] at er
    injection er with er; subst er
    refine Goes.pure h (hrun (u := .agg ((vs.drop fd.offset).take i.size).toArray) ?_) (by simp only [RV]; exact ⟨_, rfl, h4⟩)
    simp [part, hagg', sizeOf, typeInfo, hi]
  | false =>
    have hagg' : (isAgg fd.type).run P w = .ok false w := by rw [run_isAggD hd, ← hagg]
    have er' := ofCells_false er
    subst er'
    have hn := cut_len ec
    simp at hn
    simp only [RVs] at h4
    obtain ⟨v', vs', m1, m2, m3⟩ := h4
    have hv : vs[fd.offset]? = some v' := by
      have : ((vs.drop fd.offset).take i.size)[0]? = some v' := by rw [m1]; rfl
      rw [← hn] at this
      simpa using this
    refine Goes.pure h (hrun (u := v') ?_) m2
    simp [part, hagg', hv]

end
end Go.Vi
