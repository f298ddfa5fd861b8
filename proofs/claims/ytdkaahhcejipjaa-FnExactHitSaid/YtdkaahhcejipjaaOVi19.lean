/- One operation. -/
import Derived.Test.YtdkaahhcejipjaaOVi18
set_option linter.unusedVariables false
set_option linter.unusedSimpArgs false
set_option linter.unnecessarySimpa false
set_option linter.unusedSectionVars false
namespace Go.Vi
open Go Go.RowKit
section
variable {P : Program} {call : FuncId → List AV → List (Option Obj) → Option CRes} {loop : Nat → St → Option (Out × St)}
variable {s : St} {a : Act} {w : World} {L : Loc} {Z : Nat → Prop}

theorem put_inj {dst : Option Nat} {t : Nat} (h : dst = some t) : dst = some t := h

theorem isB_of {u : AV} {p : Bool} (h : u = .d (.bool p)) : u.isB = true := by rw [h]; rfl

theorem toDs_fzL {o : Ora} {s : St} : ∀ {l : List AV} {xs : List D}, toDs l = some xs → ∃ l', fzL o s l = some (l', s) ∧ toDs l' = some xs := by
  have hd : ∀ {l : List AV} {xs : List D}, dL l = some xs → fzL o s l = some (l, s) := by
    intro l
    induction l with
    | nil => intro xs _; rfl
    | cons a l ih =>
      intro xs h
      cases a <;> first
        | (simp [dL] at h; done)
        | (simp only [dL] at h
           split at h
           · rename_i ys hy; simp only [fzL, fz, ih hy]
           · cases h)
  intro l
  induction l with
  | nil => intro xs h; exact ⟨[], rfl, h⟩
  | cons a l ih =>
    intro xs h
    simp only [toDs] at h
    split at h
    case h_2 => cases h
    case h_1 x hx =>
      split at h
      case h_2 => cases h
      case h_1 ys hy =>
        obtain ⟨l', h1, h2⟩ := ih hy
        have ha : fz o s a = some (a, s) := by
          cases a <;> first
            | (simp [toD] at hx; done)
            | rfl
            | (simp only [toD] at hx
               split at hx
               · rename_i ds hds; simp only [fz, hd hds]
               · cases hx)
        refine ⟨a :: l', by simp only [fzL, ha, h1], ?_⟩
        simp only [toDs, hx, h2]
        exact h
theorem buildRow_form {o : Ora} {s : St} {dst : Option Nat} {sz : Elt} {agg : Bool} {zero : List AV} {len : Nat} {ps : List (Nat × VX)} {r : AV × St} (e : doOp o s dst (.buildRow sz agg zero len ps) = some r) : doOp o s dst (.buildSlice sz agg zero len ps) = some r := by
  simp only [doOp] at e ⊢
  cases h1 : evElems s.env ps with
  | none => simp [h1] at e
  | some qs =>
    cases dst with
    | none => simp [h1] at e
    | some t =>
      simp only [h1] at e ⊢
      by_cases hz : zero.length = sz.2
      · rw [if_pos hz] at e ⊢
        cases h2 : dZ zero with
        | none => simp [h2] at e
        | some ds =>
          simp only [h2] at e ⊢
          cases h3 : D.ofCells agg ds with
          | none => simp [h3] at e
          | some z =>
            simp only [h3] at e ⊢
            cases h4 : toDs (qs.map (·.2)) with
            | none => simp [h4] at e
            | some xs =>
              obtain ⟨l', h5, h6⟩ := toDs_fzL (o := o) (s := s) h4
              simp only [h4] at e
              simp only [h5, h6]
              exact e
      · rw [if_neg hz] at e; cases e

theorem goes_op {np : Nat} {o : Oper} {vop : VOp} {r : AV} {s' : St} (hco : CallOk P call) (h : RS s a w L Z) (hok : okV P o.op vop = true) (ht : ∀ t, o.dst = some t → t < np)
    (e : doOp (real call loop) s o.dst vop = some (r, s')) : Goes P np o s a w L Z r s' := by
  generalize ho : o.op = op at hok
  unfold okV at hok
  split at hok
  · -- move
    rename_i x y
    cases hy : ev s.env y with
    | none => simp [doOp, evalOp, hy] at e
    | some u => simp [doOp, evalOp, hy] at e; obtain ⟨rfl, rfl⟩ := e; exact goes_move np h (.inl ho) hok hy
  · -- assign
    rename_i x y
    cases hy : ev s.env y with
    | none => simp [doOp, evalOp, hy] at e
    | some u => simp [doOp, evalOp, hy] at e; obtain ⟨rfl, rfl⟩ := e; exact goes_move np h (.inr ho) hok hy
  · -- pick
    rename_i c x y c' x' y'
    simp only [Bool.and_eq_true] at hok
    simp only [doOp, evalOp] at e
    split at e
    case h_3 => cases e
    case h_2 v' e' new' hev =>
      exfalso
      split at hev
      · split at hev <;> simp at hev
      · cases hev
    case h_1 v' hev =>
      injection e with e; injection e with e1 e2; subst e1; subst e2
      split at hev
      case h_2 => cases hev
      case h_1 t u v q1 q2 q3 =>
        have := goes_pick (P := P) np h (o := o) ho hok.1.1 hok.1.2 hok.2 q1 q2 q3
        cases t <;> (simp at hev; subst hev; exact this)
  · -- alloc
    rename_i t cs
    split at hok
    case h_2 => cases hok
    case h_1 i hi =>
      split at hok
      case h_2 => cases hok
      case h_1 z hz =>
        simp only [doOp, evalOp] at e
        split at e
        case h_2 => cases e
        case h_1 tt htt =>
          split at e
          case h_2 => cases e
          case h_1 s2 hl =>
            injection e with e; injection e with e1 e2; subst e1; subst e2
            simp only [AV.map, if_true]
            exact goes_alloc h ho hi hz hok hl (ht tt (by assumption))
  · -- box
    rename_i t x y
    simp only [doOp, evalOp] at e
    cases hy : ev s.env y with
    | none => simp [hy] at e
    | some u =>
      have key : (∀ vs, u ≠ .tup vs) → u ≠ .undef → u ≠ .bare → (match o.dst with | some t => (match s.lay t [some (Obj.box u.cells)] with | some s => some ((AV.ptr (0, 0) 0).map fun r => if r = (0, 0) then (t, 0) else r, s) | none => none) | none => none) = some (r, s') → Goes P np o s a w L Z r s' := by
        intro k1 k2 k3 e
        split at e
        case h_2 => cases e
        case h_1 tt htt =>
          split at e
          case h_2 => cases e
          case h_1 s2 hl =>
            injection e with e; injection e with e1 e2; subst e1; subst e2
            simp only [AV.map, if_true]
            exact goes_box h ho hok hy k1 k2 k3 hl (ht tt (by assumption))
      rw [hy] at e
      cases u with
      | tup vs => simp at e
      | undef => simp at e
      | bare => simp at e
      | _ => exact key (by simp) (by simp) (by simp) e
  · -- build
    rename_i t ps zero qs
    split at hok
    case h_2 => cases hok
    case h_1 fields i hu hi =>
      split at hok
      case h_2 => cases hok
      case h_1 z places hz hpl =>
        simp only [Bool.and_eq_true] at hok
        simp only [doOp, evalOp] at e
        cases e1 : evParts s.env qs with
        | none => simp [e1] at e
        | some rs =>
          cases e2 : fillA zero rs with
          | none => simp [e1, e2] at e
          | some cs => simp [e1, e2] at e; obtain ⟨rfl, rfl⟩ := e; exact goes_build np h ho hu hi hz hpl hok.1 hok.2 e1 e2
  · -- buildSlice
    rename_i t len ps sz agg zero len' qs
    split at hok
    case h_2 => cases hok
    case h_1 el hu =>
      split at hok
      case h_2 => cases hok
      case h_1 i hi =>
        split at hok
        case h_2 => cases hok
        case h_1 z hz =>
          simp only [Bool.and_eq_true, beq_iff_eq, decide_eq_true_eq] at hok
          obtain ⟨⟨⟨⟨⟨⟨⟨c1, c2⟩, c3⟩, c4⟩, c5⟩, c6⟩, c7⟩, c8⟩ := hok
          obtain ⟨s1, s2⟩ := sz
          simp only at c1 c2
          subst c1; subst c2; subst c3
          cases hd : o.dst with
          | none => rw [hd] at e; simp only [doOp] at e; split at e <;> first | (rename_i q; cases q; done) | cases e
          | some tt =>
            rw [hd] at e
            exact goes_buildSlice h ho c4 hu hi hz c5 c6 c7 c8 (ht tt hd) e
  · -- buildRow
    rename_i t len ps sz agg zero len' qs
    split at hok
    case h_2 => cases hok
    case h_1 el hu =>
      split at hok
      case h_2 => cases hok
      case h_1 i hi =>
        split at hok
        case h_2 => cases hok
        case h_1 z hz =>
          simp only [Bool.and_eq_true, beq_iff_eq, decide_eq_true_eq] at hok
          obtain ⟨⟨⟨⟨⟨⟨⟨c1, c2⟩, c3⟩, c4⟩, c5⟩, c6⟩, c7⟩, c8⟩ := hok
          obtain ⟨s1, s2⟩ := sz
          simp only at c1 c2
          subst c1; subst c2; subst c3
          cases hd : o.dst with
          | none => rw [hd] at e; simp only [doOp] at e; split at e <;> first | (rename_i q; cases q; done) | cases e
          | some tt =>
            rw [hd] at e
            exact goes_buildSlice h ho c4 hu hi hz c5 c6 c7 c8 (ht tt hd) (buildRow_form e)
  · -- buildO
    rename_i t len ps sz x'
    split at hok
    case h_2 => cases hok
    case h_1 el x hu hps =>
      split at hok
      case h_2 => cases hok
      case h_1 i hi =>
        split at hok
        case h_2 => cases hok
        case h_1 z hz =>
          simp only [Bool.and_eq_true, beq_iff_eq, decide_eq_true_eq] at hok
          obtain ⟨⟨⟨⟨⟨⟨d1, d2⟩, d3⟩, d4⟩, d5⟩, d6⟩, d7⟩ := hok
          obtain ⟨s1, s2⟩ := sz
          simp only at d1 d2
          subst d1; subst d2; subst d3
          have hps' : ps = #[(0, x)] := Array.ext' hps
          subst hps'
          cases hd : o.dst with
          | none => rw [hd] at e; simp only [doOp] at e; split at e <;> first | (rename_i q; cases q; done) | cases e
          | some tt =>
            rw [hd] at e
            exact goes_buildO h ho d4 hu hi hz d5 d6 d7 (ht tt hd) e
  · -- appendO
    rename_i c sz bytes x' y'
    split at hok
    case h_2 => cases hok
    case h_1 x y t t' hc1 hc2 hc3 =>
      simp only [Bool.and_eq_true, beq_iff_eq] at hok
      obtain ⟨⟨⟨c1, c2⟩, c3⟩, c4⟩ := hok
      subst c1
      split at c4
      case h_2 => cases c4
      case h_1 el hu =>
        split at c4
        case h_2 => cases c4
        case h_1 i hi =>
          split at c4
          case h_2 => cases c4
          case h_1 z hz =>
            simp only [Bool.and_eq_true, beq_iff_eq] at c4
            obtain ⟨⟨⟨d1, d2⟩, d3⟩, d4⟩ := c4
            obtain ⟨s1, s2⟩ := sz
            simp only at d1 d2
            subst d1; subst d2; subst d3
            have hcc : c = { callee := .builtin .append, args := #[x, y], argTypes := #[t, t] } := by
              obtain ⟨q1, q2, q3⟩ := c
              simp only at hc1 hc2 hc3
              have e2 : q2 = #[x, y] := Array.ext' hc2
              have e3 : q3 = #[t, t] := Array.ext' hc3
              rw [hc1, e2, e3]
            subst hcc
            cases hd : o.dst with
            | none => rw [hd] at e; simp only [doOp] at e; split at e <;> first | (rename_i q; cases q; done) | cases e
            | some tt =>
              rw [hd] at e
              exact goes_appendO h ho c2 c3 hu hi hz d4 (ht tt hd) e
  · -- lend
    rename_i t x y
    split at hok
    case h_2 => cases hok
    case h_1 i d hi hd =>
      simp only [Bool.and_eq_true, beq_iff_eq] at hok
      obtain ⟨⟨c1, c2⟩, c3⟩ := hok
      cases hdd : o.dst with
      | none =>
        rw [hdd] at e
        have : doOp (real call loop) s none (.lend y) = some (r, s') → doOp (real call loop) s none (.load false 1 y) = some (r, s') := by
          intro e
          simp only [doOp, evalOp] at e ⊢
          split at e
          case h_2 => cases e
          case h_1 q sz n off hev =>
            split at e
            case h_2 => cases e
            case h_1 sz' xs ho' =>
              split at e
              case h_2 => cases e
              case h_1 cs hcs =>
                split at e
                · split at e
                  · rename_i q1 q2; cases q2
                  · cases e
                · split at e
                  case h_2 => cases e
                  case h_1 v hld =>
                    rw [hev]
                    simp only [hld]
                    exact e
        have e' := this e
        simp only [doOp, evalOp] at e'
        cases hy : ev s.env y with
        | none => simp [hy] at e'
        | some p =>
          cases hl : loadAt (real call loop) s.sto false 1 p with
          | none => simp [hy, hl] at e'
          | some u => simp [hy, hl] at e'; obtain ⟨rfl, rfl⟩ := e'; exact goes_load np h ho c1 hi hd c3.symm hy (by rw [c2]; exact hl)
      | some tt =>
        rw [hdd] at e
        exact goes_lend h ho c1 hi c2 hd c3 (ht tt hdd) e
  · -- load
    rename_i t x agg n y
    split at hok
    case h_2 => cases hok
    case h_1 i d hi hd =>
      simp only [Bool.and_eq_true, beq_iff_eq] at hok
      obtain ⟨⟨c1, c2⟩, c3⟩ := hok
      subst c2
      simp only [doOp, evalOp] at e
      cases hy : ev s.env y with
      | none => simp [hy] at e
      | some p =>
        cases hl : loadAt (real call loop) s.sto agg i.size p with
        | none => simp [hy, hl] at e
        | some u => simp [hy, hl] at e; obtain ⟨rfl, rfl⟩ := e; exact goes_load np h ho c1 hi hd c3 hy hl
  · -- store
    rename_i t x y n x' y'
    split at hok
    case h_2 => cases hok
    case h_1 i hi =>
      simp only [Bool.and_eq_true, beq_iff_eq] at hok
      obtain ⟨⟨c1, c2⟩, c3⟩ := hok
      subst c1
      simp only [doOp] at e
      split at e
      case h_2 => cases e
      case h_1 p v e1 e2 =>
        split at e
        case h_2 => cases e
        case h_1 s2 hs =>
          injection e with e; injection e with q1 q2; subst q1; subst q2
          exact goes_store np h ho c2 c3 hi e1 e2 hs
  · -- storeP
    rename_i t x y n x' y'
    split at hok
    case h_2 => cases hok
    case h_1 i hi =>
      simp only [Bool.and_eq_true, beq_iff_eq] at hok
      obtain ⟨⟨c1, c2⟩, c3⟩ := hok
      subst c1
      simp only [doOp] at e
      split at e
      case h_2 => cases e
      case h_1 p v e1 e2 =>
        split at e
        case h_2 => cases e
        case h_1 s2 hs =>
          injection e with e; injection e with q1 q2; subst q1; subst q2
          exact goes_store np h ho c2 c3 hi e1 e2 hs
  · -- bin
    rename_i op t x y t' isB op' x' y'
    simp only [Bool.and_eq_true, decide_eq_true_eq] at hok
    obtain ⟨⟨⟨c1, c2⟩, c3⟩, c4⟩ := hok
    subst c1
    simp only [doOp, evalOp] at e
    split at e
    case h_3 => cases e
    case h_2 v' e' new' hev =>
      exfalso
      repeat' split at hev
      all_goals first | (cases hev; done) | (simp at hev; done)
    case h_1 v' hev =>
      injection e with e; injection e with e1 e2; subst e1; subst e2
      split at hev
      case h_2 => cases hev
      case h_1 u v q1 q2 =>
        split at hev
        case h_2 => cases hev
        case h_1 hB =>
          split at hev
          case h_2 => cases hev
          case h_1 m hm =>
            injection hev with hev; injection hev with hev _; subst hev
            refine goes_bin np h ho c2 c3 (fun p hp => ?_) q1 q2 hm
            have hB' : u.isB = isB := by simpa using hB
            rw [isB_of hp] at hB'
            subst hB'
            simp only [Bool.not_true, Bool.false_or] at c4
            split at c4
            · assumption
            · cases c4
  · -- eqNil
    rename_i op t x t' ne x'
    simp only [Bool.and_eq_true, decide_eq_true_eq] at hok
    obtain ⟨⟨c1, c2⟩, c3⟩ := hok
    split at c3
    case h_2 => cases c3
    case h_1 el hu =>
      simp only [doOp, evalOp] at e
      cases hx : ev s.env x' with
      | none => simp [hx] at e
      | some u =>
        simp only [hx] at e
        cases u <;> first
          | (simp at e; done)
          | (simp only at e
             injection e with e
             injection e with q1 q2
             subst q1; subst q2
             first
               | exact goes_eqNil np h ho c1 c2 hu hx (.inl ⟨rfl, rfl⟩)
               | (refine goes_eqNil np h ho c1 c2 hu hx (.inr ⟨⟨(), fun v hv => ?_⟩, rfl⟩)
                  simp only [RV] at hv
                  first
                    | (obtain ⟨b, _, _, hv⟩ := hv; exact ⟨_, hv, rfl⟩)
                    | (obtain ⟨b, _, _, _, hv⟩ := hv; exact ⟨_, hv, rfl⟩)
                    | (obtain ⟨b, o', vs, hv, _⟩ := hv; exact ⟨_, hv, rfl⟩)))
  · -- neg
    rename_i t x y
    simp only [doOp, evalOp] at e
    split at e
    case h_3 => cases e
    case h_2 v' e' new' hev => split at hev <;> simp at hev
    case h_1 v' hev =>
      injection e with e; injection e with e1 e2; subst e1; subst e2
      split at hev
      case h_2 => cases hev
      case h_1 k n q1 =>
        injection hev with hev; injection hev with hev _; subst hev
        exact goes_neg np h ho hok q1
  · -- not
    rename_i t x y
    simp only [doOp, evalOp] at e
    split at e
    case h_3 => cases e
    case h_2 v' e' new' hev => split at hev <;> simp at hev
    case h_1 v' hev =>
      injection e with e; injection e with e1 e2; subst e1; subst e2
      split at hev
      case h_2 => cases hev
      case h_1 b q1 =>
        injection hev with hev; injection hev with hev _; subst hev
        exact goes_not np h ho hok q1
  · -- conv
    rename_i t t' x c y
    simp only [Bool.and_eq_true] at hok
    obtain ⟨c1, c2⟩ := hok
    simp only [doOp, evalOp] at e
    cases hy : ev s.env y with
    | none => simp [hy] at e
    | some u =>
      simp only [hy] at e
      split at c2
      · rename_i k
        simp only [Bool.and_eq_true] at c2
        obtain ⟨d1, d2⟩ := c2
        split at d1
        case h_2 => cases d1
        case h_1 j hj =>
          split at d2
          case h_2 => cases d2
          case h_1 k' hk' =>
            have : k = k' := by simpa using d2
            subst this
            cases u with
            | d y' => cases y' with
              | int k2 n => simp at e; obtain ⟨rfl, rfl⟩ := e; exact goes_convInt np h ho c1 ⟨j, hj⟩ hk' hy
              | _ => simp at e
            | _ => simp at e
      · simp only [Bool.and_eq_true] at c2
        obtain ⟨d1, d2⟩ := c2
        split at d1
        case h_2 => cases d1
        case h_1 hj =>
          split at d2
          case h_2 => cases d2
          case h_1 hk' =>
            cases u with
            | d y' => cases y' with
              | str n => simp at e; obtain ⟨rfl, rfl⟩ := e; exact goes_convStr np h ho c1 hj hk' hy
              | _ => simp at e
            | _ => simp at e
      · simp only [Bool.and_eq_true] at c2
        obtain ⟨d1, d2⟩ := c2
        split at d1
        case h_2 => cases d1
        case h_1 el hj =>
          split at d1
          case h_2 => cases d1
          case h_1 he =>
            split at d2
            case h_2 => cases d2
            case h_1 hk' =>
              cases hc : content (real call loop) s.sto u with
              | none => simp [hc] at e
              | some xs =>
                cases hb : (real call loop).ofBytes xs with
                | none => simp [hc, hb] at e
                | some tx => simp [hc, hb] at e; obtain ⟨rfl, rfl⟩ := e; exact goes_bytesToStr np h ho c1 hj he hk' hy hc hb
  · -- mkfn
    rename_i f first xs g ys
    simp only [Bool.and_eq_true, beq_iff_eq] at hok
    obtain ⟨⟨c1, c2⟩, c3⟩ := hok
    subst c2
    have hf : first = #[] := by apply Array.ext'; simpa using c1
    subst hf
    simp only [doOp, evalOp] at e
    cases hy : evL s.env ys with
    | none => simp [hy] at e
    | some us => simp [hy] at e; obtain ⟨rfl, rfl⟩ := e; exact goes_mkfn np h ho c3 hy
  · -- makeSlice
    rename_i t x y sz bytes agg zero x' y'
    split at hok
    case h_2 => cases hok
    case h_1 el hu =>
      split at hok
      case h_2 => cases hok
      case h_1 i hi =>
        split at hok
        case h_2 => cases hok
        case h_1 z hz =>
          simp only [Bool.and_eq_true, beq_iff_eq, decide_eq_true_eq] at hok
          obtain ⟨⟨⟨⟨⟨⟨⟨c1, c2⟩, c3⟩, c4⟩, c5⟩, c6⟩, c7⟩, c8⟩ := hok
          obtain ⟨s1, s2⟩ := sz
          simp only at c1 c2
          subst c1; subst c2; subst c3
          simp only [doOp, evalOp] at e
          split at e
          case h_3 => cases e
          case h_1 v' hev =>
            exfalso
            repeat' split at hev
            all_goals first | (cases hev; done) | (simp at hev; done)
          case h_2 v' e' new' hev =>
            split at hev
            case h_2 => cases hev
            case h_1 k l k' c q1 q2 =>
              split at hev
              case isFalse => cases hev
              case isTrue =>
                split at hev
                case h_2 => cases hev
                case h_1 ds hds =>
                  split at hev
                  case h_2 => cases hev
                  case h_1 zd hzd =>
                    split at hev
                    case h_2 => cases hev
                    case h_1 heq hfit =>
                      injection hev with hev; injection hev with g1 g2; injection g2 with g2 g3; subst g1; subst g2; subst g3
                      split at e
                      case h_2 => cases e
                      case h_1 tt htt =>
                        split at e
                        case h_2 => cases e
                        case h_1 s3 hl =>
                          injection e with e; injection e with e1 e2; subst e1; subst e2
                          simp only [AV.map, if_true]
                          exact goes_makeSlice h ho c4 c5 hu hi hz c6 c7 c8 hds hzd q1 q2 heq hfit (ht tt (by assumption)) hl
  · -- slice
    rename_i t x lo hi mx isStr sz x' lo' hi' mx'
    simp only [Bool.and_eq_true] at hok
    obtain ⟨⟨⟨⟨c1, c2⟩, c3⟩, c4⟩, c5⟩ := hok
    simp only [doOp, evalOp] at e
    split at e
    case h_3 => cases e
    case h_2 v' e' new' hev =>
      exfalso
      repeat' split at hev
      all_goals first | (cases hev; done) | (simp at hev; done)
    case h_1 v' hev =>
      injection e with e; injection e with e1 e2; subst e1; subst e2
      split at hev
      case h_2 => cases hev
      case h_1 A y1 y2 y3 q1 q2 q3 q4 =>
        split at hev
        case h_2 => cases hev
        case h_1 l h' m p1 p2 p3 =>
          split at hev
          case h_3 => cases hev
          case h_1 u =>
            split at hev
            case h_2 => cases hev
            case h_1 =>
              split at hev
              case h_2 => cases hev
              case h_1 v hv =>
                injection hev with hev; injection hev with hev _; subst hev
                simp only [Bool.and_eq_true, Option.isNone_iff_eq_none] at c5
                obtain ⟨d1, d2⟩ := c5
                split at d2
                case h_2 => cases d2
                case h_1 hu => exact goes_sliceStr np h ho c1 c2 c3 d1 hu q1 q2 q3 p1 p2 hv
          case h_2 =>
            split at hev
            case h_2 => cases hev
            case h_1 v hv =>
              injection hev with hev; injection hev with hev _; subst hev
              simp only at c5
              split at c5
              case h_2 => cases c5
              case h_1 el hu =>
                split at c5
                case h_2 => cases c5
                case h_1 i hinfo =>
                  simp only [Bool.and_eq_true, beq_iff_eq] at c5
                  obtain ⟨s1, s2⟩ := sz
                  obtain ⟨d1, d2⟩ := c5
                  simp only at d1 d2
                  subst d1; subst d2
                  exact goes_slice np h ho c1 c2 c3 c4 hu hinfo q1 q2 q3 q4 p1 p2 p3 hv
  · -- fieldAddr
    rename_i t x f off y
    split at hok
    case h_2 => cases hok
    case h_1 fs hu =>
      split at hok
      case h_2 => cases hok
      case h_1 fd hf =>
        split at hok
        case h_2 => cases hok
        case h_1 i hi =>
          simp only [Bool.and_eq_true, beq_iff_eq, bne_iff_ne, ne_eq] at hok
          obtain ⟨⟨c1, c2⟩, c3⟩ := hok
          subst c2
          simp only [doOp, evalOp] at e
          cases hy : ev s.env y with
          | none => simp [hy] at e
          | some u =>
            simp only [hy] at e
            cases u <;> simp at e <;> (obtain ⟨rfl, rfl⟩ := e; exact goes_fieldAddr np h ho c3 hu hf hi c1 hy rfl)
  · -- field
    rename_i t x f agg off n y
    split at hok
    case h_2 => cases hok
    case h_1 fs hu =>
      split at hok
      case h_2 => cases hok
      case h_1 fd hf =>
        split at hok
        case h_2 => cases hok
        case h_1 i d hi hd =>
          simp only [Bool.and_eq_true, beq_iff_eq] at hok
          obtain ⟨⟨⟨c1, c2⟩, c3⟩, c4⟩ := hok
          subst c1; subst c2
          simp only [doOp, evalOp] at e
          cases hy : ev s.env y with
          | none => simp [hy] at e
          | some u =>
            simp only [hy] at e
            cases u with
            | agg cs =>
              cases hc : cut cs fd.offset i.size with
              | none => simp [hc] at e
              | some cs' =>
                cases hr : AV.ofCells agg cs' with
                | none => simp [hc, hr] at e
                | some v => simp [hc, hr] at e; obtain ⟨rfl, rfl⟩ := e; exact goes_field np h ho c4 hu hf hi hd c3 hy hc hr
            | _ => simp at e
  · -- indexAddr
    rename_i t x i sz y j
    split at hok
    case h_2 => cases hok
    case h_1 el hu =>
      split at hok
      case h_2 => cases hok
      case h_1 n hi =>
        simp only [Bool.and_eq_true, beq_iff_eq] at hok
        obtain ⟨⟨⟨c1, c2⟩, c3⟩, c4⟩ := hok
        obtain ⟨s1, s2⟩ := sz
        simp only at c1 c2
        subst c1; subst c2
        simp only [doOp, evalOp] at e
        split at e
        case h_3 => cases e
        case h_2 v' e' new' hev =>
          exfalso
          repeat' split at hev
          all_goals first | (cases hev; done) | (simp at hev; done)
        case h_1 v' hev =>
          injection e with e; injection e with e1 e2; subst e1; subst e2
          split at hev
          case h_3 => cases hev
          case h_1 xs k m q1 q2 =>
            split at hev
            case h_2 => cases hev
            case h_1 d hd =>
              split at hev
              case isFalse => cases hev
              case isTrue hl =>
                injection hev with hev; injection hev with hev _; subst hev
                exact goes_indexAddrL np h ho c3 c4 hu hi q1 q2 hd hl
          case h_2 q sz' g u k m q1 q2 =>
            split at hev
            case h_2 => cases hev
            case h_1 xs hxs =>
              split at hev
              case h_2 => cases hev
              case h_1 d hd =>
                split at hev
                case isFalse => cases hev
                case isTrue hsz =>
                  subst hsz
                  injection hev with hev; injection hev with hev _; subst hev
                  cases g with
                  | none => exact goes_indexAddrA np h ho c3 c4 hu hi q1 q2 hxs hd
                  | some p => obtain ⟨p1, p2⟩ := p; exact goes_indexAddrA np h ho c3 c4 hu hi q1 q2 hxs hd
  · -- index
    rename_i t x i y j
    simp only [Bool.and_eq_true] at hok
    obtain ⟨⟨c1, c2⟩, c3⟩ := hok
    split at c1
    case h_2 => cases c1
    case h_1 hu =>
      simp only [doOp, evalOp] at e
      split at e
      case h_3 => cases e
      case h_2 v' e' new' hev =>
        exfalso
        repeat' split at hev
        all_goals first | (cases hev; done) | (simp at hev; done)
      case h_1 v' hev =>
        injection e with e; injection e with e1 e2; subst e1; subst e2
        split at hev
        case h_2 => cases hev
        case h_1 sv k n q1 q2 =>
          split at hev
          case h_2 => cases hev
          case h_1 b hb =>
            injection hev with hev; injection hev with hev _; subst hev
            exact goes_index np h ho c2 c3 hu q1 q2 hb
  · -- extract
    rename_i x i y j
    simp only [Bool.and_eq_true, beq_iff_eq] at hok
    obtain ⟨c1, c2⟩ := hok
    subst c2
    simp only [doOp, evalOp] at e
    cases hy : ev s.env y with
    | none => simp [hy] at e
    | some u =>
      simp only [hy] at e
      cases u with
      | tup vs =>
        cases hv : vs[i]? with
        | none => simp [hv] at e
        | some v => simp [hv] at e; obtain ⟨rfl, rfl⟩ := e; exact goes_extract np h ho c1 hy hv
      | _ => simp at e
  · -- len
    rename_i c isS y
    split at hok
    case h_2 => cases hok
    case h_1 x t hc1 hc2 hc3 =>
      simp only [Bool.and_eq_true] at hok
      obtain ⟨c1, c2⟩ := hok
      have hcc : c = { callee := .builtin .len, args := #[x], argTypes := #[t] } := by
        obtain ⟨q1, q2, q3⟩ := c
        simp only at hc1 hc2 hc3
        have e2 : q2 = #[x] := Array.ext' hc2
        have e3 : q3 = #[t] := Array.ext' hc3
        rw [hc1, e2, e3]
      subst hcc
      have hev : ∃ u, ev s.env y = some u := by
        cases hy : ev s.env y with
        | none => simp [doOp, evalOp, hy] at e
        | some u => exact ⟨u, rfl⟩
      obtain ⟨u, hy⟩ := hev
      have her : evalOp (real call loop) s.env s.sto (.len isS y) = some (r, []) ∧ s' = s := by
        simp only [doOp] at e
        split at e
        case h_3 => cases e
        case h_2 v' e' new' hev =>
          exfalso
          simp only [evalOp] at hev
          repeat' split at hev
          all_goals first | (cases hev; done) | (simp at hev; done)
        case h_1 v' hev =>
          injection e with e; injection e with e1 e2; subst e1; subst e2
          exact ⟨hev, rfl⟩
      obtain ⟨her, rfl⟩ := her
      refine goes_len np h ho c1 hy ⟨fun hS => ?_, fun hS => ?_⟩ her
      · subst hS
        simp only at c2
        split at c2
        · assumption
        · cases c2
      · subst hS
        simp only at c2
        split at c2
        · exact ⟨_, by assumption⟩
        · cases c2
  · -- append
    rename_i c sz bytes x' y'
    split at hok
    case h_2 => cases hok
    case h_1 x y t t' hc1 hc2 hc3 =>
      simp only [Bool.and_eq_true, beq_iff_eq] at hok
      obtain ⟨⟨⟨c1, c2⟩, c3⟩, c4⟩ := hok
      subst c1
      split at c4
      case h_2 => cases c4
      case h_1 el hu =>
        split at c4
        case h_2 => cases c4
        case h_1 i hi =>
          split at c4
          case h_2 => cases c4
          case h_1 z hz =>
            simp only [Bool.and_eq_true, beq_iff_eq] at c4
            obtain ⟨⟨⟨d1, d2⟩, d3⟩, d4⟩ := c4
            obtain ⟨s1, s2⟩ := sz
            simp only at d1 d2
            subst d1; subst d2; subst d3
            have hcc : c = { callee := .builtin .append, args := #[x, y], argTypes := #[t, t] } := by
              obtain ⟨q1, q2, q3⟩ := c
              simp only at hc1 hc2 hc3
              have e2 : q2 = #[x, y] := Array.ext' hc2
              have e3 : q3 = #[t, t] := Array.ext' hc3
              rw [hc1, e2, e3]
            subst hcc
            cases hd : o.dst with
            | none => rw [hd] at e; simp only [doOp] at e; split at e <;> first | (rename_i q; cases q; done) | cases e
            | some tt =>
              rw [hd] at e
              cases hx : ev s.env x' with
              | none => simp [doOp, hx] at e
              | some A =>
                cases hy : ev s.env y' with
                | none => simp [doOp, hx, hy] at e
                | some B => exact goes_append h ho c2 c3 hu hi hz d4 (ht tt hd) hx hy e
  · -- call
    rename_i c g m raw ys
    split at hok
    case h_2 => cases hok
    case h_1 f hc =>
      simp only [Bool.and_eq_true, beq_iff_eq] at hok
      obtain ⟨c1, c2⟩ := hok
      subst c1
      simp only [doOp] at e
      split at e
      case h_2 => cases e
      case h_1 as has => exact goes_call hco h ho hc c2 has ht e
  · -- callv
    rename_i c fx m raw ys
    split at hok
    case h_2 => cases hok
    case h_1 x hc =>
      simp only [Bool.and_eq_true] at hok
      obtain ⟨c1, c2⟩ := hok
      simp only [doOp] at e
      split at e
      case h_2 => cases e
      case h_1 g cap as hf has => exact goes_callv hco h ho hc c1 c2 hf has ht e
  · cases hok

end
end Go.Vi
