/- Regions whose order is given; what is forgotten ahead of a loop. -/
import Derived.Test.YtdkaahhcejipjaaVi19
set_option linter.unusedVariables false
set_option linter.unusedSimpArgs false
namespace Go.Vi
open Go Go.RowKit
section
variable {P : Program} {call : FuncId → List AV → List (Option Obj) → Option CRes} {loop : Nat → St → Option (Out × St)}
variable {s : St} {a : Act} {w : World} {L : Id → Option Nat} {Z : Nat → Prop}

def okG (ops : Array Oper) : Option (Nat × Bool) → Option (Nat × Bool) → Bool
  | none, none => true
  | some (j, w), some (t, w') => w == w' && (match ops[j]? with | some o => o.dst == some t | none => false)
  | _, _ => false
def okOper (P : Program) (np : Nat) (ops : Array Oper) (o : Oper) (v : VOper) : Bool :=
  o.dst == v.dst && (match o.dst with | some t => decide (t < np) | none => true) && okG ops o.guard v.guard && okV P o.op v.op
def okIx (P : Program) (np : Nat) (ops : Array Oper) : List Nat → List VOper → Bool
  | [], [] => true
  | i :: is, v :: vs => (match ops[i]? with | some o => okOper P np ops o v | none => false) && okIx P np ops is vs
  | _, _ => false

theorem wanted_sound (h : RS s a w L Z) {ops : Array Oper} {o : Oper} {g : Option (Nat × Bool)} (hg : okG ops o.guard g = true) {b : Bool} (e : wanted s.env g = some b) : Region.wanted o (yielded ops a.tmps) = b := by
  unfold okG at hg
  split at hg
  · rename_i h1
    simp only [wanted] at e
    injection e with e
    subst e
    unfold Region.wanted
    rw [h1]
  · rename_i j w' t w'' h1
    simp only [Bool.and_eq_true, beq_iff_eq] at hg
    obtain ⟨rfl, h2⟩ := hg
    split at h2
    case h_2 => cases h2
    case h_1 oj hj =>
      have hd : oj.dst = some t := by simpa using h2
      simp only [wanted] at e
      unfold Region.wanted
      rw [h1]
      simp only [yielded, hj, Option.bind_some, hd]
      obtain ⟨l1, l2⟩ := RVs_iff.1 h.env
      split at e
      · rename_i b' hb'
        injection e with e
        have hlt : t < a.tmps.size := by rw [← Array.length_toList, ← l1]; exact (List.getElem?_eq_some_iff.1 hb').1
        have hv := l2 t _ (a.tmps[t]) hb' (by simp [hlt])
        simp only [RV, RD] at hv
        have hv' : a.tmps[t] = .bool b' := by simpa using hv
        simp only [Array.getElem?_eq_getElem hlt, hv']
        rw [← e]
        cases w' <;> cases b' <;> rfl
      · rename_i hb'
        injection e with e
        have hlt : t < a.tmps.size := by rw [← Array.length_toList, ← l1]; exact (List.getElem?_eq_some_iff.1 hb').1
        have hv := l2 t _ (a.tmps[t]) hb' (by simp [hlt])
        simp only [RV] at hv
        simp only [Array.getElem?_eq_getElem hlt, hv, ← e]
        rfl
      · cases e
  · cases hg

theorem RS.bare (h : RS s a w L Z) (dst : Option Nat) : RS ⟨putD s.env dst .bare, s.sto⟩ (a.put dst undef) w L Z :=
  h.put dst (by simp only [RV])

/-- One operation of a region, wanted or not. -/
theorem oper_sound {np : Nat} {ops : Array Oper} {o : Oper} {v : VOper} {s' : St} {rest : List VOper} (hco : CallOk P call) (h : RS s a w L Z) (hok : okOper P np ops o v = true) (e : execOps (real call loop) (v :: rest) s = some s') (K : Act → World → Prop) (Q : Exit → Act → World → Prop)
    (hk : ∀ s1 a1 w1 L1 Z1, RS s1 a1 w1 L1 Z1 → Tr np s.sto s1.sto w w1 L L1 Z Z1 → execOps (real call loop) rest s1 = some s' → K a1 w1) :
    if Region.wanted o (yielded ops a.tmps) then o.wp P a w K Q ∨ (o.asks P a w ∧ LetsOut Q) else K (a.put o.dst undef) w := by
  simp only [okOper, Bool.and_eq_true, beq_iff_eq] at hok
  obtain ⟨⟨⟨h1, h2⟩, h3⟩, h4⟩ := hok
  simp only [execOps] at e
  split at e
  · rename_i hw
    rw [wanted_sound h h3 hw]
    simp only [if_true]
    left
    split at e
    case h_2 => cases e
    case h_1 u s1 hd =>
      rw [← h1] at hd e
      refine goes_op (np := np) hco h h4 (fun t ht => by rw [ht] at h2; simpa using h2) hd K Q fun u' w1 L1 Z1 k1 k2 k3 => ?_
      exact hk ⟨putD s1.env o.dst u, s1.sto⟩ _ _ L1 Z1 (k1.put o.dst k3) k2 e
  · rename_i hw
    rw [wanted_sound h h3 hw]
    simp only [Bool.false_eq_true, if_false]
    rw [← h1] at e
    exact hk _ _ _ L Z (h.bare o.dst) (Tr.refl _ _ _ _ _) e
  · cases e

theorem ops_sound {np : Nat} {ops : Array Oper} (hco : CallOk P call) : ∀ {is : List Nat} {vs : List VOper} {s s' : St} {a : Act} {w : World} {L : Id → Option Nat} {Z : Nat → Prop}, okIx P np ops is vs = true → RS s a w L Z → execOps (real call loop) vs s = some s' →
    ∀ (Q : Exit → Act → World → Prop), (∀ a' w' L' Z', RS s' a' w' L' Z' → Tr np s.sto s'.sto w w' L L' Z Z' → Q .normal a' w') → wpOps P ops Q is a w
  | [], [], s, s', a, w, L, Z, _, h, e, Q, hQ => by
    simp only [execOps] at e
    injection e with e
    subst e
    simp only [wpOps]
    exact hQ a w L Z h (Tr.refl _ _ _ _ _)
  | i :: is, v :: vs, s, s', a, w, L, Z, hok, h, e, Q, hQ => by
    simp only [okIx, Bool.and_eq_true] at hok
    obtain ⟨hok1, hok2⟩ := hok
    split at hok1
    case h_2 => cases hok1
    case h_1 o ho =>
      simp only [wpOps, ho]
      exact oper_sound hco h hok1 e _ Q fun s1 a1 w1 L1 Z1 k1 k2 k3 => ops_sound hco hok2 k1 k3 Q fun a' w' L' Z' m1 m2 => hQ a' w' L' Z' m1 (k2.trans m2)
  | [], _ :: _, _, _, _, _, _, _, hok, _, _, _, _ => by simp [okIx] at hok
  | _ :: _, [], _, _, _, _, _, _, hok, _, _, _, _ => by simp [okIx] at hok

/-! ### forgetting ahead of a loop -/

theorem maskE_get {live : List Nat} : ∀ {l : List AV} {n i : Nat}, (maskE live n l)[i]? = (l[i]?).map fun a => if live.contains (n + i) then a else .undef
  | [], n, i => by simp [maskE]
  | a :: l, n, 0 => by simp [maskE]
  | a :: l, n, i + 1 => by
    simp only [maskE, List.getElem?_cons_succ]
    rw [maskE_get, show n + 1 + i = n + (i + 1) by omega]
theorem maskE_len {live : List Nat} : ∀ {l : List AV} {n : Nat}, (maskE live n l).length = l.length
  | [], n => rfl
  | a :: l, n => by simp [maskE, maskE_len]
theorem maskS_get {live : List Nat} : ∀ {l : Sto} {n i : Nat}, (maskS live n l)[i]? = (l[i]?).map fun a => if live.contains (n + i) then a else []
  | [], n, i => by simp [maskS]
  | a :: l, n, 0 => by simp [maskS]
  | a :: l, n, i + 1 => by
    simp only [maskS, List.getElem?_cons_succ]
    rw [maskS_get, show n + 1 + i = n + (i + 1) by omega]

theorem mask_get {le ls : List Nat} {s : St} {r : Id} : (mask le ls s).sto.get r = if ls.contains r.1 then (s.sto.get r).map (·.forget fun r => !ls.contains r.1) else none := by
  show ((maskS ls 0 s.sto).forget _).get r = _
  rw [get_forget]
  have : (maskS ls 0 s.sto).get r = if ls.contains r.1 then s.sto.get r else none := by
    unfold Sto.get
    rw [maskS_get]
    cases s.sto[r.1]? with
    | none => simp
    | some l =>
      simp only [Option.map_some, Nat.zero_add]
      by_cases hc : ls.contains r.1 = true
      · simp only [hc, if_true]
      · simp only [hc, if_false, Bool.false_eq_true]
        simp
  rw [this]
  split <;> rfl

theorem RS.mask (h : RS s a w L Z) (np : Nat) (le ls : List Nat) : RS (mask le ls s) a w L Z ∧ Tr np s.sto (mask le ls s).sto w w L L Z Z := by
  have hsome : ∀ q, ((Vi.mask le ls s).sto.get q).isSome → ls.contains q.1 = true ∧ (s.sto.get q).isSome := fun q hq => by
    rw [mask_get] at hq
    split at hq
    · rename_i hc; exact ⟨hc, by simpa using hq⟩
    · cases hq
  have hsame : ∀ q : Id, ls.contains q.1 = true → Same (cxOf w Z L s.sto) (cxOf w Z L (Vi.mask le ls s).sto) q := fun q hq => by
    refine ⟨rfl, fun k => ?_, fun sz xs k => ⟨xs, ?_, rfl⟩, fun _ _ _ => rfl⟩
    · show ((Vi.mask le ls s).sto.get q).isSome
      rw [mask_get, if_pos hq]
      simpa using k
    · show (Vi.mask le ls s).sto.get q = _
      have k' : s.sto.get q = some (.rows sz xs) := k
      rw [mask_get, if_pos hq, k']
      rfl
  have hlives : ∀ b, Lives (Vi.mask le ls s).sto L b → Lives s.sto L b := fun b hb => by
    obtain ⟨q, o, h1, h2⟩ := hb
    obtain ⟨o', ho'⟩ := Option.isSome_iff_exists.1 (hsome q (by simp [h1])).2
    exact ⟨q, o', ho', h2⟩
  refine ⟨⟨h.defers, ?_, ?_, fun q q' b hq hq' => h.inj q q' b (hsome q hq).2 (hsome q' hq').2, fun b hb => ⟨(h.dis b hb).1, fun hl => (h.dis b hb).2 (hlives b hl)⟩⟩,
    ⟨rfl, rfl, rfl, Nat.le_refl _, fun _ _ _ => rfl, fun b hb => .inl (hlives b hb), fun _ h => h, fun _ h => .inl h, fun _ _ => rfl, fun q _ hq => ⟨(hsome q hq).2, hsame q (hsome q hq).1⟩⟩⟩
  · have henv : RVs (cxOf w Z L s.sto) (maskE le 0 s.env) a.tmps.toList := by
      have := h.env
      rw [RVs_iff] at this ⊢
      refine ⟨by rw [maskE_len]; exact this.1, fun i x v hx hv => ?_⟩
      rw [maskE_get] at hx
      cases hy : s.env[i]? with
      | none => simp [hy] at hx
      | some y =>
        simp [hy] at hx
        split at hx
        · subst hx; exact this.2 i y v hy hv
        · subst hx; simp only [RV]
    refine RVs_mono (c := cxOf w Z L s.sto) (c' := cxOf w Z L (Vi.mask le ls s).sto) (ZLe.refl _ _) _ _ (fun q hq => hsame q ?_) (RVs_forget (p := fun r => !ls.contains r.1) _ _ henv)
    have := refsL_forget _ q hq
    simpa using this
  · intro q ob hq
    obtain ⟨h1, h2⟩ := hsome q (by simp [hq])
    obtain ⟨o, ho⟩ := Option.isSome_iff_exists.1 h2
    rw [mask_get, if_pos h1, ho] at hq
    simp at hq
    subst hq
    refine RO_mono (c := cxOf w Z L s.sto) (c' := cxOf w Z L (Vi.mask le ls s).sto) (ZLe.refl _ _) rfl (fun _ _ => rfl) (fun k hk => hsame k ?_) (RO_forget (h.obj q o ho))
    cases o with
    | box cs =>
      have := refsL_forget cs k (by simpa [Obj.forget, Obj.refs] using hk)
      simpa using this
    | rows sz xs => simp [Obj.forget, Obj.refs] at hk

theorem promote_sound {np : Nat} : ∀ {ps : List (Nat × Option Nat × Nat × Elt)} {s s' : St} {L : Id → Option Nat}, (∀ p ∈ ps, p.2.2.1 < np) → RS s a w L Z → promote ps s = some s' → ∃ L', RS s' a w L' Z ∧ Tr np s.sto s'.sto w w L L' Z Z
  | [], s, s', L, _, h, e => by simp only [promote] at e; injection e with e; subst e; exact ⟨L, h, Tr.refl _ _ _ _ _⟩
  | (t, cell, slot, sz) :: ps, s, s', L, hp, h, e => by
    have hp' : ∀ p ∈ ps, p.2.2.1 < np := fun p hm => hp p (by simp [hm])
    have hslot : slot < np := hp (t, cell, slot, sz) (by simp)
    simp only [promote] at e
    split at e
    · split at e
      · rename_i he
        split at e
        case h_2 => cases e
        case h_1 s2 hl =>
          obtain ⟨L', k1, k2, k3, k4, _⟩ := layVirtual (s := s) h (Tr.refl np _ _ _ _) hl hslot
          have henv := (lay_sto hl).2
          obtain ⟨l1, l2⟩ := RVs_iff.1 h.env
          have hlt : t < a.tmps.size := by rw [← Array.length_toList, ← l1]; exact (List.getElem?_eq_some_iff.1 he).1
          have hv := l2 t _ (a.tmps[t]) he (by simp [hlt])
          simp only [RV] at hv
          obtain ⟨A, hA⟩ := hv
          have hnew : RV (cxOf w Z L' s2.sto) (.arr (slot, 0) sz none false) (a.tmps[t]) := by
            rw [hA]
            simp only [RV]
            exact ⟨A, 0, 0, [], rfl, ⟨Nat.le_refl _, Nat.zero_le _⟩, fun e => (by cases e), k4, fun _ => rfl, fun _ _ e => (by cases e), fun _ => rfl, fun b hb => by rw [k3] at hb; cases hb⟩
          have hput := k1.put (some t) hnew
          have hsame : a.put (some t) a.tmps[t] = a := by
            simp only [Act.put]
            have : a.tmps.setIfInBounds t a.tmps[t] = a.tmps := by
              apply Array.ext'
              rw [Array.toList_setIfInBounds]
              apply List.ext_getElem?
              intro i
              by_cases hi : t = i
              · subst hi
                rw [List.getElem?_set_self (by simpa using hlt)]
                simp [hlt]
              · rw [List.getElem?_set_ne hi]
            rw [this]
          rw [hsame] at hput
          obtain ⟨L2, m1, m2⟩ := promote_sound hp' hput e
          exact ⟨L2, m1, k2.trans m2⟩
      · exact promote_sound hp' h e
    · cases e

end
end Go.Vi
