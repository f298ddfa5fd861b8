/- Objects told anew in place; a row that is lent. -/
import Derived.Test.YtdkaahhcejipjaaOVi12b
set_option linter.unusedVariables false
set_option linter.unusedSimpArgs false
set_option linter.unnecessarySimpa false
set_option linter.unusedSectionVars false
namespace Go.Vi
open Go Go.RowKit
section
variable {P : Program} {call : FuncId → List AV → List (Option Obj) → Option CRes} {loop : Nat → St → Option (Out × St)}
variable {s : St} {a : Act} {w : World} {L : Loc} {Z : Nat → Prop}

def setN (L : Loc) (r : Id) (N : Nat → Prop) : Loc := ⟨L.main, fun k => if k = r then N else L.nest k⟩
theorem setN_nest (L : Loc) (r : Id) (N : Nat → Prop) : (setN L r N).nest r = N := by simp [setN]
theorem setN_ne (L : Loc) {r k : Id} (N : Nat → Prop) (h : k ≠ r) : (setN L r N).nest k = L.nest k := by simp [setN, h]

theorem get_far (s : Sto) (r : Id) : s.get (s.length + r.1 + 1, 0) = none := by
  unfold Sto.get
  rw [List.getElem?_eq_none (by simp; omega)]

/-- One object is told anew, in the same memory. -/
theorem RS.swap {r : Id} {ob ob' : Obj} {N : Nat → Prop} (np : Nat) (h : RS s a w L Z) (hr : s.sto.get r = some ob) (hrw : ∀ sz xs, ob.rw = some (sz, xs) → ∃ ys, ob'.rw = some (sz, ys) ∧ ys.length = xs.length)
    (hhas : ∀ b, ob'.has (setN L r N) r b → ob.has L r b) (hob : RO (cxOf w Z (setN L r N) (s.sto.put r (some ob'))) r ob') :
    RS ⟨s.env, s.sto.put r (some ob')⟩ a w (setN L r N) Z ∧ Tr np s.sto (s.sto.put r (some ob')) w w L (setN L r N) Z Z ∧ ∀ k, Same (cxOf w Z L s.sto) (cxOf w Z (setN L r N) (s.sto.put r (some ob'))) k := by
  have hfar := get_far s.sto r
  have hqr : ((s.sto.length + r.1 + 1, 0) : Id) ≠ r := fun e => by
    have := congrArg Prod.fst e
    simp at this
    omega
  generalize ((s.sto.length + r.1 + 1, 0) : Id) = q at *
  have hget : ∀ k, (s.sto.put r (some ob')).get k = if k = r then some ob' else s.sto.get k := fun k => by
    by_cases e : k = r
    · subst e; rw [if_pos rfl, get_put_same _ hr]
    · rw [if_neg e, get_put_ne _ e]
  have hsame : ∀ k, Same (cxOf w Z L s.sto) (cxOf w Z (setN L r N) (s.sto.put r (some ob'))) k := fun k => by
    refine ⟨rfl, fun hs => ?_, fun z zs hz => ?_, fun _ _ _ => rfl⟩
    · show ((s.sto.put r (some ob')).get k).isSome
      rw [hget]
      split
      · rfl
      · exact hs
    · have hz' : (s.sto.get k).bind Obj.rw = some (z, zs) := hz
      show ∃ ys, ((s.sto.put r (some ob')).get k).bind Obj.rw = some (z, ys) ∧ ys.length = zs.length
      rw [hget]
      by_cases e : k = r
      · rw [if_pos e]
        rw [e, hr] at hz'
        exact hrw _ _ hz'
      · rw [if_neg e]
        exact ⟨zs, hz', rfl⟩
  have hk : ∀ k ob2, (s.sto.put r (some ob')).get k = some ob2 → k ≠ r → s.sto.get k = some ob2 := fun k ob2 h1 h2 => by rw [hget, if_neg h2] at h1; exact h1
  have hgr : ∀ ob2, (s.sto.put r (some ob')).get r = some ob2 → ob2 = ob' := fun ob2 h1 => by rw [hget, if_pos rfl] at h1; injection h1 with h1; exact h1.symm
  have hgq : ∀ ob2, (s.sto.put r (some ob')).get q = some ob2 → False := fun ob2 h1 => by rw [hget, if_neg hqr, hfar] at h1; cases h1
  have := RS.retell (np := np) (s' := ⟨s.env, s.sto.put r (some ob')⟩) (L' := setN L r N) h (r := r) (q := q) hqr
    (RVs_mono (c := cxOf w Z L s.sto) (c' := cxOf w Z (setN L r N) (s.sto.put r (some ob'))) (ZLe.refl _ _) _ _ (fun k _ => hsame k) h.env)
    (fun k ob2 h1 => by
      by_cases e : k = r
      · subst e; rw [hgr _ h1]; exact hob
      · exact RO_mono (c := cxOf w Z L s.sto) (ZLe.refl _ _) rfl (setN_ne L N e) (fun _ _ => rfl) (fun p _ => hsame p) (h.obj k ob2 (hk k ob2 h1 e)))
    (fun k ob2 h1 h2 _ => ⟨ob2, hk k ob2 h1 h2, fun x hx => (has_iff' (L := setN L r N) (L' := L) rfl (setN_ne L N h2)).1 hx⟩)
    (fun k ob2 x h1 h2 h3 => by
      rcases h2 with rfl | rfl
      · have := hgr _ h1
        subst this
        exact ⟨k, ob, .inl rfl, hr, hhas x h3⟩
      · exact (hgq _ h1).elim)
    (fun _ _ _ _ h2 _ _ => hgq _ h2)
    (fun k ob2 x h1 h2 h3 k' ob3 h4 h5 h6 h7 => by
      have e := h.injH k' k x ob3 ob2 (hk k' ob3 h4 h5) h1 ((has_iff' (L := setN L r N) (L' := L) rfl (setN_ne L N h5)).1 h7) h2
      rcases h3 with e2 | e2
      · exact h5 (e.trans e2)
      · exact h6 (e.trans e2))
    (fun _ _ => rfl)
    (fun k _ hs => by
      refine ⟨?_, hsame k⟩
      by_cases e : k = r
      · rw [e, hr]; rfl
      · have hs' : ((s.sto.put r (some ob')).get k).isSome := hs
        rw [hget, if_neg e] at hs'
        exact hs')
  exact ⟨this.1, this.2, hsame⟩

/-- A row that owns nothing is one that may own. -/
theorem RS.toOwn {r : Id} {sz : Elt} {xs : List D} (np : Nat) (h : RS s a w L Z) (hr : s.sto.get r = some (.rows sz xs)) (hf : (real call loop).flat xs = true) :
    ∃ L', RS ⟨s.env, s.sto.put r (some (.orows sz xs))⟩ a w L' Z ∧ Tr np s.sto (s.sto.put r (some (.orows sz xs))) w w L L' Z Z ∧ ∀ k, Same (cxOf w Z L s.sto) (cxOf w Z L' (s.sto.put r (some (.orows sz xs)))) k := by
  have hro := h.obj r _ hr
  simp only [RO] at hro
  refine ⟨_, RS.swap (N := fun _ => False) np h hr (fun z zs e => ⟨zs, e, rfl⟩) (fun b hb => ?_) ?_⟩
  · rcases hb with hb | ⟨_, hb⟩
    · exact .inl hb
    · rw [setN_nest] at hb; exact hb.elim
  · simp only [RO]
    refine ⟨fun e => ⟨hro.1 e, fun k => by rw [setN_nest]; exact id⟩, fun b e => ?_⟩
    obtain ⟨vs, m1, m2, m3⟩ := hro.2 b e
    exact ⟨vs, [], m1, m2, by simpa using flat_Rows m1 xs 0 hf (by simpa using m2) m3, by simp, fun k => by rw [setN_nest]; simp⟩

/-- A cell of a box is told anew. -/
theorem RS.reBox {r : Id} {cs : List AV} {k : Nat} {x y : AV} (np : Nat) (h : RS s a w L Z) (hr : s.sto.get r = some (.box cs)) (hx : cs[k]? = some x) (hy : ∀ v, RV (cxOf w Z L s.sto) x v → RV (cxOf w Z L s.sto) y v) :
    ∃ L', RS ⟨s.env, s.sto.put r (some (.box (cs.set k y)))⟩ a w L' Z ∧ Tr np s.sto (s.sto.put r (some (.box (cs.set k y)))) w w L L' Z Z := by
  have hro := h.obj r _ hr
  simp only [RO] at hro
  obtain ⟨b, vs, ty, h1, h2, h3⟩ := hro
  have hsame : ∀ q, Same (cxOf w Z L s.sto) (cxOf w Z (setN L r (L.nest r)) (s.sto.put r (some (.box (cs.set k y))))) q := fun q => by
    refine ⟨rfl, fun hs => ?_, fun z zs hz => ⟨zs, ?_, rfl⟩, fun _ _ _ => rfl⟩
    · show ((s.sto.put r _).get q).isSome
      by_cases e : q = r
      · subst e; rw [get_put_same _ hr]; rfl
      · rw [get_put_ne _ e]; exact hs
    · have hz' : (s.sto.get q).bind Obj.rw = some (z, zs) := hz
      show ((s.sto.put r _).get q).bind Obj.rw = _
      by_cases e : q = r
      · subst e; rw [hr] at hz'; simp [Obj.rw] at hz'
      · rw [get_put_ne _ e]; exact hz'
  obtain ⟨m1, m2, _⟩ := RS.swap (ob' := .box (cs.set k y)) (N := L.nest r) np h hr (fun z zs e => (by simp [Obj.rw] at e)) (fun b hb => by
    rcases hb with hb | ⟨hb, _⟩
    · exact .inl hb
    · cases hb) (by
    simp only [RO]
    refine ⟨b, vs, ty, h1, h2, ?_⟩
    refine RVs_mono (c := cxOf w Z L s.sto) (c' := cxOf w Z (setN L r (L.nest r)) (s.sto.put r (some (.box (cs.set k y))))) (ZLe.refl _ _) _ _ (fun q _ => hsame q) ?_
    rw [RVs_iff] at h3 ⊢
    refine ⟨by simpa using h3.1, fun i p v hp hv => ?_⟩
    rw [List.getElem?_set] at hp
    split at hp
    · rename_i e
      subst e
      split at hp
      · injection hp with hp
        subst hp
        exact hy v (h3.2 k x v hx hv)
      · cases hp
    · exact h3.2 i p v hp hv)
  exact ⟨_, m1, m2⟩

/-- An object without memory is laid. -/
theorem layNone {np t : Nat} {s' : St} {ob : Obj} (h : RS s a w L Z) (hl : s.lay t [some ob] = some s') (ht : t < np) (hob : ∀ c : Cx, c.L (t, 0) = none → (∀ k, ¬ c.L.nest (t, 0) k) → RO c (t, 0) ob) :
    ∃ L', RS s' a w L' Z ∧ Tr np s.sto s'.sto w w L L' Z Z ∧ L' (t, 0) = none ∧ s'.sto.get (t, 0) = some ob ∧ ∀ q, (s.sto.get q).isSome → Same (cxOf w Z L s.sto) (cxOf w Z L' s'.sto) q := by
  obtain ⟨h1, h2, h3, h4⟩ := RS.layN (s0 := s) (np := np) (nb := none) (w' := w) (N := fun _ => False) h (Tr.refl _ _ _ _ _) hl ht rfl rfl rfl (Nat.le_refl _) (fun _ _ _ => rfl) (fun _ e => by cases e) (fun _ _ e => e.elim)
    (hob _ (updN_self _ _ _ _) (fun k => by show ¬ (updN _ _ _ _).nest _ _; rw [updN_nest]; exact id))
  refine ⟨_, h1, h2, updN_self _ _ _ _, ?_, h4⟩
  rw [lay_get (lay_sto hl).1]; simp

theorem rowOf_RO {own : Bool} {sz : Elt} {t : Id} (c : Cx) (h1 : c.L t = none) (h2 : ∀ k, ¬ c.L.nest t k) : RO c t (rowOf own sz []) := by
  cases own with
  | true => simp only [rowOf, RO]; exact ⟨fun _ => ⟨trivial, h2⟩, fun b e => (by rw [h1] at e; cases e)⟩
  | false => simp only [rowOf, RO]; exact ⟨fun _ => trivial, fun b e => (by rw [h1] at e; cases e)⟩
theorem rowOf_rw {own : Bool} {sz : Elt} : (rowOf own sz []).rw = some (sz, []) := by cases own <;> rfl

theorem goes_lend {np t : Nat} {s' : St} {o : Oper} {ty : TypeId} {i : TypeInfo} {d : TypeDesc} {x : Operand} {x' : VX} {r : AV} (h : RS s a w L Z) (ho : o.op = .load ty x) (hx : okX x x' = true) (hi : P.info? ty = some i) (hsz : i.size = 1) (hd : P.underlying ty = some d) (hag : aggD d = false) (ht : t < np)
    (es : doOp (real call loop) s (some t) (.lend x') = some (r, s')) : Goes P np o s a w L Z r s' := by
  simp only [doOp] at es
  split at es
  case h_2 => cases es
  case h_1 q sz n off hev =>
    split at es
    case h_2 => cases es
    case h_1 sz' xs ho' =>
      split at es
      case h_2 => cases es
      case h_1 cs hcs =>
        have hv := ev_sound h hx hev
        split at es
        · rename_i esz ys hcut
          split at es
          case h_2 => cases es
          case h_1 m t' hm ht' =>
            injection ht' with ht'; subst ht'
            split at es
            case isFalse => cases es
            case isTrue hc =>
              obtain ⟨rfl, hc2⟩ := hc
              split at es
              case h_2 => cases es
              case h_1 s2 hl =>
                injection es with es; injection es with e1 e2; subst e1; subst e2
                simp only [RV] at hv
                obtain ⟨b, _, hb, hn, hv⟩ := hv
                have hx' : xs[n.toNat]? = some (.agg cs) := by
                  simp only [real, Ora.elt, eltI] at hcs
                  rw [if_pos hn] at hcs
                  exact hcs
                have hoff : cs[off]? = some (.own esz ys) := by
                  unfold cut at hcut
                  split at hcut
                  · injection hcut with hcut
                    have := congrArg (·[0]?) hcut
                    simpa [List.getElem?_take, List.getElem?_drop] using this
                  · cases hcut
                obtain ⟨L', v, k1, k2, k3, k4⟩ := RS.lend (np := np) h ho' hn hx' hc2 hoff (by omega) hb hl ht
                have hrun : (loadVar ty ⟨b, n.toNat * sz.2 + off, none⟩).run P w = .ok v w := by
                  rcases run_loadVar (P := P) (w := w) (t := ty) (vs := [v]) hi hd (by rw [hsz]; rfl) (fun j u hj => by
                    cases j with
                    | zero => simp at hj; subst hj; simpa using k3
                    | succ j => simp at hj) with ⟨q1, q2⟩ | ⟨q1, q2⟩
                  · rw [hag] at q1; cases q1
                  · simpa using q2
                refine Goes.value (run_v (m := Instr.loadAt ty (a.eval x)) (by unfold execOp; rw [ho]) (u := v) ?_) k1 k2 k4
                rw [hv]
                simp [Instr.loadAt, Instr.sureAddr, hrun]
        · split at es
          case h_2 => cases es
          case h_1 v hld =>
            injection es with es; injection es with e1 e2; subst e1; subst e2
            exact goes_load np h ho hx hi hd hag.symm hev (by rw [hsz]; exact hld)

end
end Go.Vi
