/- Regions whose order is given; what is forgotten ahead of a loop. -/
import Derived.Test.YtdkaahhcejipjaaOVi19
set_option linter.unusedVariables false
set_option linter.unusedSimpArgs false
set_option linter.unnecessarySimpa false
set_option linter.unusedSectionVars false
namespace Go.Vi
open Go Go.RowKit
section
variable {P : Program} {call : FuncId → List AV → List (Option Obj) → Option CRes} {loop : Nat → St → Option (Out × St)}
variable {s : St} {a : Act} {w : World} {L : Loc} {Z : Nat → Prop}

def okG (ops : Array Oper) : Option (Nat × Bool) → Option (Nat × Bool) → Bool
  | none, none => true
  | some (j, w), some (t, w') => w == w' && (match ops[j]? with | some o => o.dst == some t | none => false)
  | _, _ => false
def okOper (P : Program) (np : Nat) (ops : Array Oper) (o : Oper) (v : VOper) : Bool :=
  o.dst == v.dst && (match o.dst with | some t => decide (t < np) | none => true) && okG ops o.guard v.guard && okV P o.op v.op
def okIx (P : Program) (np : Nat) (ops : Array Oper) : List Nat → List VOper → Bool
  | [], [] => true
  | i :: is, v :: vs => (match ops[i]? with | some o => okOper P np ops o v | none => false) && okIx P np ops is vs
  | _, _ => false

theorem wanted_sound (h : RS s a w L Z) {ops : Array Oper} {o : Oper} {g : Option (Nat × Bool)} (hg : okG ops o.guard g = true) {b : Bool} (e : wanted s.env g = some b) : Region.wanted o (yielded ops a.tmps) = b := by
  unfold okG at hg
  split at hg
  · rename_i h1
    simp only [wanted] at e
    injection e with e
    subst e
    unfold Region.wanted
    rw [h1]
  · rename_i j w' t w'' h1
    simp only [Bool.and_eq_true, beq_iff_eq] at hg
    obtain ⟨rfl, h2⟩ := hg
    split at h2
    case h_2 => cases h2
    case h_1 oj hj =>
      have hd : oj.dst = some t := by simpa using h2
      simp only [wanted] at e
      unfold Region.wanted
      rw [h1]
      simp only [yielded, hj, Option.bind_some, hd]
      obtain ⟨l1, l2⟩ := RVs_iff.1 h.env
      split at e
      · rename_i b' hb'
        injection e with e
        have hlt : t < a.tmps.size := by rw [← Array.length_toList, ← l1]; exact (List.getElem?_eq_some_iff.1 hb').1
        have hv := l2 t _ (a.tmps[t]) hb' (by simp [hlt])
        simp only [RV, RD] at hv
        have hv' : a.tmps[t] = .bool b' := by simpa using hv
        simp only [Array.getElem?_eq_getElem hlt, hv']
        rw [← e]
        cases w' <;> cases b' <;> rfl
      · rename_i hb'
        injection e with e
        have hlt : t < a.tmps.size := by rw [← Array.length_toList, ← l1]; exact (List.getElem?_eq_some_iff.1 hb').1
        have hv := l2 t _ (a.tmps[t]) hb' (by simp [hlt])
        simp only [RV] at hv
        simp only [Array.getElem?_eq_getElem hlt, hv, ← e]
        rfl
      · cases e
  · cases hg

theorem RS.bare (h : RS s a w L Z) (dst : Option Nat) : RS ⟨putD s.env dst .bare, s.sto⟩ (a.put dst undef) w L Z :=
  h.put dst (by simp only [RV])

/-- One operation of a region, wanted or not. -/
theorem oper_sound {np : Nat} {ops : Array Oper} {o : Oper} {v : VOper} {s' : St} {rest : List VOper} (hco : CallOk P call) (h : RS s a w L Z) (hok : okOper P np ops o v = true) (e : execOps (real call loop) (v :: rest) s = some s') (K : Act → World → Prop) (Q : Exit → Act → World → Prop)
    (hk : ∀ s1 a1 w1 L1 Z1, RS s1 a1 w1 L1 Z1 → Tr np s.sto s1.sto w w1 L L1 Z Z1 → execOps (real call loop) rest s1 = some s' → K a1 w1) :
    if Region.wanted o (yielded ops a.tmps) then o.wp P a w K Q ∨ (o.asks P a w ∧ LetsOut Q) else K (a.put o.dst undef) w := by
  simp only [okOper, Bool.and_eq_true, beq_iff_eq] at hok
  obtain ⟨⟨⟨h1, h2⟩, h3⟩, h4⟩ := hok
  simp only [execOps] at e
  split at e
  · rename_i hw
    rw [wanted_sound h h3 hw]
    simp only [if_true]
    left
    split at e
    case h_2 => cases e
    case h_1 u s1 hd =>
      rw [← h1] at hd e
      refine goes_op (np := np) hco h h4 (fun t ht => by rw [ht] at h2; simpa using h2) hd K Q fun u' w1 L1 Z1 k1 k2 k3 => ?_
      exact hk ⟨putD s1.env o.dst u, s1.sto⟩ _ _ L1 Z1 (k1.put o.dst k3) k2 e
  · rename_i hw
    rw [wanted_sound h h3 hw]
    simp only [Bool.false_eq_true, if_false]
    rw [← h1] at e
    exact hk _ _ _ L Z (h.bare o.dst) (Tr.refl _ _ _ _ _) e
  · cases e

theorem ops_sound {np : Nat} {ops : Array Oper} (hco : CallOk P call) : ∀ {is : List Nat} {vs : List VOper} {s s' : St} {a : Act} {w : World} {L : Loc} {Z : Nat → Prop}, okIx P np ops is vs = true → RS s a w L Z → execOps (real call loop) vs s = some s' →
    ∀ (Q : Exit → Act → World → Prop), (∀ a' w' L' Z', RS s' a' w' L' Z' → Tr np s.sto s'.sto w w' L L' Z Z' → Q .normal a' w') → wpOps P ops Q is a w
  | [], [], s, s', a, w, L, Z, _, h, e, Q, hQ => by
    simp only [execOps] at e
    injection e with e
    subst e
    simp only [wpOps]
    exact hQ a w L Z h (Tr.refl _ _ _ _ _)
  | i :: is, v :: vs, s, s', a, w, L, Z, hok, h, e, Q, hQ => by
    simp only [okIx, Bool.and_eq_true] at hok
    obtain ⟨hok1, hok2⟩ := hok
    split at hok1
    case h_2 => cases hok1
    case h_1 o ho =>
      simp only [wpOps, ho]
      exact oper_sound hco h hok1 e _ Q fun s1 a1 w1 L1 Z1 k1 k2 k3 => ops_sound hco hok2 k1 k3 Q fun a' w' L' Z' m1 m2 => hQ a' w' L' Z' m1 (k2.trans m2)
  | [], _ :: _, _, _, _, _, _, _, hok, _, _, _, _ => by simp [okIx] at hok
  | _ :: _, [], _, _, _, _, _, _, hok, _, _, _, _ => by simp [okIx] at hok

/-! ### forgetting ahead of a loop -/

theorem maskE_get {live : List Nat} : ∀ {l : List AV} {n i : Nat}, (maskE live n l)[i]? = (l[i]?).map fun a => if live.contains (n + i) then a else .undef
  | [], n, i => by simp [maskE]
  | a :: l, n, 0 => by simp [maskE]
  | a :: l, n, i + 1 => by
    simp only [maskE, List.getElem?_cons_succ]
    rw [maskE_get, show n + 1 + i = n + (i + 1) by omega]
theorem maskE_len {live : List Nat} : ∀ {l : List AV} {n : Nat}, (maskE live n l).length = l.length
  | [], n => rfl
  | a :: l, n => by simp [maskE, maskE_len]
theorem maskS_get {live : List Nat} : ∀ {l : Sto} {n i : Nat}, (maskS live n l)[i]? = (l[i]?).map fun a => if live.contains (n + i) then a else []
  | [], n, i => by simp [maskS]
  | a :: l, n, 0 => by simp [maskS]
  | a :: l, n, i + 1 => by
    simp only [maskS, List.getElem?_cons_succ]
    rw [maskS_get, show n + 1 + i = n + (i + 1) by omega]

theorem mask_get {le ls : List Nat} {s : St} {r : Id} : (mask le ls s).sto.get r = if ls.contains r.1 then (s.sto.get r).map (·.forget fun r => !ls.contains r.1) else none := by
  show ((maskS ls 0 s.sto).forget _).get r = _
  rw [get_forget]
  have : (maskS ls 0 s.sto).get r = if ls.contains r.1 then s.sto.get r else none := by
    unfold Sto.get
    rw [maskS_get]
    cases s.sto[r.1]? with
    | none => simp
    | some l =>
      simp only [Option.map_some, Nat.zero_add]
      by_cases hc : ls.contains r.1 = true
      · simp only [hc, if_true]
      · simp only [hc, if_false, Bool.false_eq_true]
        simp
  rw [this]
  split <;> rfl

theorem RS.mask (h : RS s a w L Z) (np : Nat) (le ls : List Nat) : RS (mask le ls s) a w L Z ∧ Tr np s.sto (mask le ls s).sto w w L L Z Z := by
  have hsome : ∀ q, ((Vi.mask le ls s).sto.get q).isSome → ls.contains q.1 = true ∧ (s.sto.get q).isSome := fun q hq => by
    rw [mask_get] at hq
    split at hq
    · rename_i hc; exact ⟨hc, by simpa using hq⟩
    · cases hq
  have hsame : ∀ q : Id, ls.contains q.1 = true → Same (cxOf w Z L s.sto) (cxOf w Z L (Vi.mask le ls s).sto) q := fun q hq => by
    refine ⟨rfl, fun k => ?_, fun sz xs k => ⟨xs, ?_, rfl⟩, fun _ _ _ => rfl⟩
    · show ((Vi.mask le ls s).sto.get q).isSome
      rw [mask_get, if_pos hq]
      simpa using k
    · show ((Vi.mask le ls s).sto.get q).bind Obj.rw = _
      have k' : (s.sto.get q).bind Obj.rw = some (sz, xs) := k
      rw [mask_get, if_pos hq]
      cases ho : s.sto.get q with
      | none => simp [ho] at k'
      | some o => simp [ho] at k'; simp [Obj.rw_forget, k']
  have hfrom : ∀ q o, (Vi.mask le ls s).sto.get q = some o → ∃ o', s.sto.get q = some o' ∧ o = o'.forget fun r => !ls.contains r.1 := fun q o hq => by
    rw [mask_get] at hq
    split at hq
    · cases ho : s.sto.get q with
      | none => simp [ho] at hq
      | some o' => rw [ho] at hq; simp only [Option.map_some, Option.some.injEq] at hq; exact ⟨o', rfl, hq.symm⟩
    · cases hq
  have hlives : ∀ b, Lives (Vi.mask le ls s).sto L b → Lives s.sto L b := fun b hb => by
    obtain ⟨q, o, h1, h2⟩ := hb
    obtain ⟨o', ho', rfl⟩ := hfrom q o h1
    exact ⟨q, o', ho', Obj.has_forget h2⟩
  refine ⟨⟨h.defers, ?_, ?_, fun q q' b o o' hq hq' hb hb' => by
    obtain ⟨o2, h1, rfl⟩ := hfrom q o hq
    obtain ⟨o3, h2, rfl⟩ := hfrom q' o' hq'
    exact h.injH q q' b o2 o3 h1 h2 (Obj.has_forget hb) (Obj.has_forget hb'), fun b hb => ⟨(h.dis b hb).1, fun hl => (h.dis b hb).2 (hlives b hl)⟩⟩,
    ⟨rfl, rfl, rfl, Nat.le_refl _, fun _ _ _ => rfl, fun b hb => .inl (hlives b hb), fun _ h => h, fun _ h => .inl h, fun _ _ => rfl, fun q _ hq => ⟨(hsome q hq).2, hsame q (hsome q hq).1⟩⟩⟩
  · have henv : RVs (cxOf w Z L s.sto) (maskE le 0 s.env) a.tmps.toList := by
      have := h.env
      rw [RVs_iff] at this ⊢
      refine ⟨by rw [maskE_len]; exact this.1, fun i x v hx hv => ?_⟩
      rw [maskE_get] at hx
      cases hy : s.env[i]? with
      | none => simp [hy] at hx
      | some y =>
        simp [hy] at hx
        split at hx
        · subst hx; exact this.2 i y v hy hv
        · subst hx; simp only [RV]
    refine RVs_mono (c := cxOf w Z L s.sto) (c' := cxOf w Z L (Vi.mask le ls s).sto) (ZLe.refl _ _) _ _ (fun q hq => hsame q ?_) (RVs_forget (p := fun r => !ls.contains r.1) _ _ henv)
    have := refsL_forget _ q hq
    simpa using this
  · intro q ob hq
    obtain ⟨h1, h2⟩ := hsome q (by simp [hq])
    obtain ⟨o, ho⟩ := Option.isSome_iff_exists.1 h2
    rw [mask_get, if_pos h1, ho] at hq
    simp at hq
    subst hq
    refine RO_mono (c := cxOf w Z L s.sto) (c' := cxOf w Z L (Vi.mask le ls s).sto) (ZLe.refl _ _) rfl rfl (fun _ _ => rfl) (fun k hk => hsame k ?_) (RO_forget (h.obj q o ho))
    have := Obj.refs_forget o k hk
    simpa using this

theorem put_tmp {t : Nat} {x : AV} (h : RS s a w L Z) (ht : t < a.tmps.size) (hx : RV (cxOf w Z L s.sto) x a.tmps[t]) : RS ⟨s.env.set t x, s.sto⟩ a w L Z := by
  have hput := h.put (some t) hx
  have hsame : a.put (some t) a.tmps[t] = a := by
    simp only [Act.put]
    have : a.tmps.setIfInBounds t a.tmps[t] = a.tmps := by
      apply Array.ext'
      rw [Array.toList_setIfInBounds]
      apply List.ext_getElem?
      intro i
      by_cases hi : t = i
      · subst hi
        rw [List.getElem?_set_self (by simpa using ht)]
        simp [ht]
      · rw [List.getElem?_set_ne hi]
    rw [this]
  rw [hsame] at hput
  exact hput
theorem tmp_of {t : Nat} {x : AV} (h : RS s a w L Z) (hx : s.env[t]? = some x) : ∃ ht : t < a.tmps.size, RV (cxOf w Z L s.sto) x a.tmps[t] := by
  obtain ⟨l1, l2⟩ := RVs_iff.1 h.env
  have hlt : t < a.tmps.size := by rw [← Array.length_toList, ← l1]; exact (List.getElem?_eq_some_iff.1 hx).1
  exact ⟨hlt, l2 t _ (a.tmps[t]) hx (by simp [hlt])⟩
theorem arr_of_emp {c : Cx} {t : Id} {sz : Elt} {own : Bool} {v : Value} (h0 : c.L t = none) (h1 : c.obj t = some (rowOf own sz [])) (hv : ∃ A, v = .slice A 0 0) : RV c (.arr t sz none false) v := by
  obtain ⟨A, hA⟩ := hv
  simp only [RV]
  exact ⟨A, 0, 0, [], hA, ⟨Nat.le_refl _, Nat.zero_le _⟩, fun e => (by cases e), by rw [h1]; exact rowOf_rw, fun _ => rfl, fun _ _ e => (by cases e), fun _ => rfl, fun b hb => by rw [h0] at hb; cases hb⟩

theorem promote_sound {np : Nat} : ∀ {ps : List (Nat × Option Nat × Nat × Elt × Bool)} {s s' : St} {L : Loc}, (∀ p ∈ ps, p.2.2.1 < np) → RS s a w L Z → promote (real call loop) ps s = some s' → ∃ L', RS s' a w L' Z ∧ Tr np s.sto s'.sto w w L L' Z Z
  | [], s, s', L, _, h, e => by simp only [promote] at e; injection e with e; subst e; exact ⟨L, h, Tr.refl _ _ _ _ _⟩
  | (t, none, slot, sz, own) :: ps, s, s', L, hp, h, e => by
    have hp' : ∀ p ∈ ps, p.2.2.1 < np := fun p hm => hp p (by simp [hm])
    have hslot : slot < np := hp (t, none, slot, sz, own) (by simp)
    simp only [promote] at e
    split at e
    · rename_i he
      split at e
      case h_2 => cases e
      case h_1 s2 hl =>
        obtain ⟨L', k1, k2, k3, k4, _⟩ := layNone (np := np) h hl hslot (fun c => rowOf_RO c)
        have henv := (lay_sto hl).2
        obtain ⟨ht, hv⟩ := tmp_of h he
        simp only [RV] at hv
        have hput := put_tmp (t := t) k1 ht (arr_of_emp (c := cxOf w Z L' s2.sto) (own := own) (sz := sz) k3 k4 hv)
        obtain ⟨L2, m1, m2⟩ := promote_sound hp' hput e
        exact ⟨L2, m1, k2.trans m2⟩
    · rename_i r sz2 g u he
      split at e
      · split at e
        · rename_i sz' xs ho
          split at e
          case h_2 => cases e
          case h_1 hf =>
            obtain ⟨L', k1, k2, _⟩ := RS.toOwn np h ho hf
            obtain ⟨L2, m1, m2⟩ := promote_sound hp' k1 e
            exact ⟨L2, m1, k2.trans m2⟩
        · exact promote_sound hp' h e
      · exact promote_sound hp' h e
    · exact promote_sound hp' h e
  | (t, some c, slot, sz, own) :: ps, s, s', L, hp, h, e => by
    have hp' : ∀ p ∈ ps, p.2.2.1 < np := fun p hm => hp p (by simp [hm])
    have hslot : slot < np := hp (t, some c, slot, sz, own) (by simp)
    simp only [promote] at e
    split at e
    case h_2 => cases e
    case h_1 r b he =>
      split at e
      case h_2 => cases e
      case h_1 cs hr =>
        split at e
        · rename_i hc
          split at e
          case h_2 => cases e
          case h_1 s2 hl =>
            obtain ⟨L', k1, k2, k3, k4, k5⟩ := layNone (np := np) h hl hslot (fun c => rowOf_RO c)
            have hlt : (slot, 0).1 = slot := rfl
            have hrt : r.1 ≠ slot := fun e2 => by
              have := lay_free (lay_sto hl).1 r e2
              rw [hr] at this
              cases this
            have hr2 : s2.sto.get r = some (.box cs) := by rw [lay_get (lay_sto hl).1, if_neg hrt]; exact hr
            obtain ⟨L3, n1, n2⟩ := RS.reBox (y := .arr (slot, 0) sz none false) np k1 hr2 hc (fun v hv => by
              simp only [RV] at hv
              exact arr_of_emp (c := cxOf w Z L' s2.sto) (own := own) k3 k4 hv)
            obtain ⟨L2, m1, m2⟩ := promote_sound hp' n1 e
            exact ⟨L2, m1, (k2.trans n2).trans m2⟩
        · rename_i q sz2 g u hc
          split at e
          · split at e
            · rename_i sz' xs ho
              split at e
              case h_2 => cases e
              case h_1 hf =>
                obtain ⟨L', k1, k2, _⟩ := RS.toOwn np h ho hf
                obtain ⟨L2, m1, m2⟩ := promote_sound hp' k1 e
                exact ⟨L2, m1, k2.trans m2⟩
            · exact promote_sound hp' h e
          · exact promote_sound hp' h e
        · exact promote_sound hp' h e

theorem unlend_sound {np : Nat} {x : VX} {s' : St} (h : RS s a w L Z) (e : unlend (real call loop) x s = some s') : ∃ L', RS s' a w L' Z ∧ Tr np s.sto s'.sto w w L L' Z Z := by
  unfold unlend at e
  split at e
  case h_2 => cases e
  case h_1 r sz0 i0 off0 _ =>
    split at e
    case h_2 => injection e with e; subst e; exact ⟨L, h, Tr.refl _ _ _ _ _⟩
    case h_1 sz xs i off q esz hr =>
      split at e
      case h_2 => cases e
      case h_1 esz' ys cs hq hx =>
        split at e
        case isFalse => cases e
        case isTrue hes =>
          subst hes
          split at e
          case h_2 => cases e
          case h_1 cs' hl =>
            injection e with e
            subst e
            have hro := h.obj r _ hr
            simp only [RO] at hro
            obtain ⟨b, vs, pre, ys0, post, A1, A2, B1, B2, v, h1, h2, h3, h4, _⟩ := hro
            have hx' : xs[i.toNat]? = some (.agg cs) := by
              simp only [real, Ora.elt, eltI] at hx
              rw [if_pos h4] at hx
              exact hx
            exact RS.unlend (np := np) h hr hq hx' hl

end
end Go.Vi
