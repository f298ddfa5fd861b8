/- Regions whose order is drawn: sound. -/
import Derived.Test.YtdkaahhcejipjaaOVi21
set_option linter.unusedVariables false
set_option linter.unusedSimpArgs false
set_option linter.unnecessarySimpa false
set_option linter.unusedSectionVars false
namespace Go.Vi
open Go Go.RowKit
section
variable {P : Program} {call : FuncId → List AV → List (Option Obj) → Option CRes} {loop : Nat → St → Option (Out × St)}
variable {s : St} {a : Act} {w : World} {L : Loc} {Z : Nat → Prop}

/-- Operations that ask nothing of the store. -/
def dryV : VOp → Bool
  | .move _ | .pick _ _ _ | .bin _ _ _ _ | .eqNil _ _ | .neg _ | .not _ | .mkfn _ _ | .fieldAddr _ _ | .field _ _ _ _ | .index _ _ | .extract _ _ | .build _ _ => true
  | _ => false
/-- Operations that lay a new object. -/
def layV : VOp → Bool
  | .alloc _ | .box _ | .buildRow _ _ _ _ _ => true
  | .call _ m raw _ => raw && (m == .bor)
  | _ => false
def putV : VOp → Bool
  | .storeP _ _ _ => true
  | _ => false
def offR (d : Option Nat) (ts : List Nat) : Bool := match d with
  | some d => !ts.contains d
  | none => true
def kindsV (x y : VOp) : Bool := (stillV x && stillV y) || (stillV x && layV y) || (dryV x && (layV y || putV y)) || ((layV x || putV x) && dryV y)
def commV (x y : VOper) : Bool := kindsV x.op y.op && offR x.dst (rdOper y) && offR y.dst (rdOper x) && (match x.dst with | some d => y.dst != some d | none => true)

theorem like_put {env : List AV} {d : Option Nat} {u : AV} {ts : List Nat} (h : offR d ts = true) : Like (putD env d u) env ts := by
  intro t ht
  cases d with
  | none => rfl
  | some d =>
    have hne : d ≠ t := by rintro rfl; simp [offR] at h; exact h ht
    simp only [putD]
    rw [List.getElem?_set_ne hne]
theorem like_put' {env : List AV} {d : Option Nat} {u : AV} {ts : List Nat} (h : offR d ts = true) : Like env (putD env d u) ts := fun t ht => (like_put h t ht).symm

theorem putD_comm {env : List AV} {d d' : Option Nat} {u u' : AV} (h : (match d with | some d => d' != some d | none => true) = true) : putD (putD env d u) d' u' = putD (putD env d' u') d u := by
  cases d with
  | none => rfl
  | some d => cases d' with
    | none => rfl
    | some d' =>
      have : d' ≠ d := by simpa using h
      simp only [putD]
      exact List.set_comm _ _ (fun e => this e.symm)

theorem lay_le {s s' : Sto} {t : Nat} {l : List (Option Obj)} (h : s.lay t l = some s') : SLe s s' := by
  unfold Sto.lay at h
  split at h
  case h_2 => cases h
  case h_1 old ho =>
    split at h
    case isFalse => cases h
    case isTrue hn =>
      injection h with h
      subst h
      intro r ob hr
      unfold Sto.get at hr ⊢
      by_cases he : t = r.1
      · subst he
        rw [ho] at hr
        simp only at hr
        exfalso
        cases hq : old[r.2]? with
        | none => simp [hq] at hr
        | some q =>
          simp only [hq] at hr
          have := List.all_eq_true.1 hn q (List.mem_of_getElem? hq)
          rw [hr] at this
          simp at this
      · rw [List.getElem?_set_ne he]
        exact hr

theorem wanted_like {s : St} {env : List AV} {v : VOper} (hl : Like s.env env (rdOper v)) : wanted env v.guard = wanted s.env v.guard := by
  obtain ⟨h1, _⟩ := hl.app
  cases hg : v.guard with
  | none => rfl
  | some g =>
    obtain ⟨t, b⟩ := g
    rw [hg] at h1
    simp only [wanted, h1 t (by simp)]

theorem dry_quiet {op : VOp} (h : dryV op = true) : quietV op = true := by cases op <;> first | rfl | simp [dryV] at h
theorem evalOp_dry {o : Ora} {e : List AV} {s s' : Sto} {op : VOp} (h : dryV op = true) : evalOp o e s op = evalOp o e s' op := by cases op <;> first | rfl | simp [dryV] at h

theorem dry_form {v : VOper} {s s' : St} (hd : dryV v.op = true) (e : step1 (real call loop) v s = some s') :
    ∃ u, s' = ⟨putD s.env v.dst u, s.sto⟩ ∧ ∀ env sto', Like s.env env (rdOper v) → step1 (real call loop) v ⟨env, sto'⟩ = some ⟨putD env v.dst u, sto'⟩ := by
  unfold step1 at e
  split at e
  · rename_i hw
    split at e
    case h_2 => cases e
    case h_1 u s1 hd1 =>
      injection e with e
      rw [doOp_quiet (dry_quiet hd)] at hd1
      split at hd1
      case h_3 => cases hd1
      case h_2 u' e' new' hev => have := quiet_new (dry_quiet hd) hev; cases this
      case h_1 u' hev =>
        injection hd1 with hd1; injection hd1 with q1 q2; subst q1; subst q2
        refine ⟨u', e.symm, fun env sto' hl => ?_⟩
        unfold step1
        rw [wanted_like hl, hw]
        simp only
        rw [doOp_quiet (dry_quiet hd)]
        simp only [evalOp_like (dry_quiet hd) (hl.app).2, evalOp_dry (s' := s.sto) hd, hev]
  · rename_i hw
    injection e with e
    refine ⟨.bare, e.symm, fun env sto' hl => ?_⟩
    unfold step1
    rw [wanted_like hl, hw]
  · cases e

theorem evElems_like {e e' : List AV} : ∀ {xs : List (Nat × VX)}, Like e e' (xs.flatMap fun p => rdX p.2) → evElems e' xs = evElems e xs
  | [], _ => rfl
  | (i, x) :: xs, h => by
    rw [List.flatMap_cons] at h
    obtain ⟨h1, h2⟩ := h.app
    simp only [evElems, ev_like (show Like e e' (rdX x) from h1), evElems_like h2]

theorem wet_op {op : VOp} {dst : Option Nat} {s s1 : St} {u : AV} (hw : (layV op || putV op) = true) (e : doOp (real call loop) s dst op = some (u, s1)) :
    ∃ sto2, s1 = ⟨s.env, sto2⟩ ∧ (layV op = true → SLe s.sto sto2) ∧ ∀ env, Like s.env env (rdV op) → doOp (real call loop) ⟨env, s.sto⟩ dst op = some (u, ⟨env, sto2⟩) := by
  cases op <;> first | (simp [layV, putV] at hw; done) | skip
  case call f m raw args =>
    have hm : raw = true ∧ m = .bor := by simpa [layV, putV] using hw
    obtain ⟨rfl, rfl⟩ := hm
    have hb : ∀ env, evL env args = evL s.env args → doOp (real call loop) ⟨env, s.sto⟩ dst (.call f .bor true args) = match doOp (real call loop) s dst (.call f .bor true args) with | some (u, s1) => some (u, ⟨env, s1.sto⟩) | none => none := by
      intro env hx
      simp only [doOp, hx]
      cases evL s.env args with
      | none => rfl
      | some as =>
        simp only [doCall]
        cases snapL (real call loop) s.sto as with
        | none => rfl
        | some as' =>
          simp only
          cases (AV.refsL as').isEmpty with
          | false => rfl
          | true =>
            simp only
            cases (real call loop).call f as' [] with
            | none => rfl
            | some c =>
              simp only
              cases scalar c.ret with
              | true => rfl
              | false =>
                simp only
                cases dst with
                | none => rfl
                | some t =>
                  cases c.pars with
                  | cons _ _ => rfl
                  | nil =>
                    cases closedA c.ret with
                    | false => rfl
                    | true =>
                      cases closedO (real call loop) c.extra with
                      | false => rfl
                      | true =>
                        simp only [St.lay]
                        cases s.sto.lay t (c.extra.map fun ob => ob.map (·.map fun r => (t, r.2))) <;> rfl
    have hs : ∃ sto2, s1 = ⟨s.env, sto2⟩ ∧ SLe s.sto sto2 := by
      simp only [doOp] at e
      cases h1 : evL s.env args with
      | none => simp [h1] at e
      | some as =>
        simp only [h1, doCall] at e
        cases h2 : snapL (real call loop) s.sto as with
        | none => simp [h2] at e
        | some as' =>
          simp only [h2] at e
          cases h3 : (AV.refsL as').isEmpty with
          | false => simp [h3] at e
          | true =>
            simp only [h3] at e
            cases h4 : (real call loop).call f as' [] with
            | none => simp [h4] at e
            | some c =>
              simp only [h4] at e
              cases h5 : scalar c.ret with
              | true =>
                simp only [h5] at e
                injection e with e; injection e with q1 q2
                exact ⟨s.sto, by rw [← q2], SLe.refl _⟩
              | false =>
                simp only [h5] at e
                split at e
                case h_2 => cases e
                case h_1 t _ _ _ _ =>
                  simp only [St.lay] at e
                  split at e
                  case h_2 => cases e
                  case h_1 s2 hl =>
                    split at hl
                    case h_2 => cases hl
                    case h_1 sto hl' =>
                      injection hl with hl
                      injection e with e; injection e with q1 q2
                      exact ⟨sto, by rw [← q2, ← hl], lay_le hl'⟩
    obtain ⟨sto2, h1, h2⟩ := hs
    refine ⟨sto2, h1, fun _ => h2, fun env hl => ?_⟩
    rw [hb env (evL_like hl), e, h1]
  case alloc cs =>
    simp only [doOp, evalOp] at e
    cases dst with
    | none => simp at e
    | some t =>
      simp only [St.lay] at e
      cases hl : s.sto.lay t [some (.box cs)] with
      | none => simp [hl] at e
      | some sto =>
        simp only [hl] at e
        injection e with e; injection e with q1 q2; subst q1; subst q2
        exact ⟨sto, rfl, fun _ => lay_le hl, fun env _ => by simp only [doOp, evalOp, St.lay, hl]⟩
  case box x =>
    have hb : ∀ env, ev env x = ev s.env x → doOp (real call loop) ⟨env, s.sto⟩ dst (.box x) = match doOp (real call loop) s dst (.box x) with | some (u, s1) => some (u, ⟨env, s1.sto⟩) | none => none := by
      intro env hx
      simp only [doOp, evalOp, hx]
      cases ev s.env x with
      | none => rfl
      | some a =>
        cases a <;> first
          | rfl
          | (cases dst with
             | none => rfl
             | some t =>
               simp only [St.lay]
               generalize s.sto.lay t _ = q
               cases q <;> rfl)
    have hs : ∃ sto2, s1 = ⟨s.env, sto2⟩ ∧ SLe s.sto sto2 := by
      simp only [doOp, evalOp] at e
      cases hx : ev s.env x with
      | none => simp [hx] at e
      | some a =>
        simp only [hx] at e
        cases a <;> first
          | (simp at e; done)
          | (cases dst with
             | none => simp at e
             | some t =>
               simp only [St.lay] at e
               split at e
               case h_2 => cases e
               case h_1 sto hl =>
                 split at hl
                 case h_2 => cases hl
                 case h_1 sto' hl' =>
                   injection hl with hl
                   injection e with e; injection e with q1 q2
                   exact ⟨sto', by rw [← q2, ← hl], lay_le hl'⟩)
    obtain ⟨sto2, h1, h2⟩ := hs
    refine ⟨sto2, h1, fun _ => h2, fun env hl => ?_⟩
    rw [hb env (ev_like hl), e, h1]
  case buildRow sz agg zero len ps =>
    have hb : ∀ env, evElems env ps = evElems s.env ps → doOp (real call loop) ⟨env, s.sto⟩ dst (.buildRow sz agg zero len ps) = match doOp (real call loop) s dst (.buildRow sz agg zero len ps) with | some (u, s1) => some (u, ⟨env, s1.sto⟩) | none => none := by
      intro env hx
      simp only [doOp, hx]
      cases evElems s.env ps with
      | none => rfl
      | some qs =>
        cases dst with
        | none => rfl
        | some t =>
          simp only
          by_cases hz : zero.length = sz.2
          · rw [if_pos hz, if_pos hz]
            cases dZ zero with
            | none => rfl
            | some ds =>
              simp only
              cases D.ofCells agg ds with
              | none => rfl
              | some z =>
                simp only
                cases toDs (qs.map (·.2)) with
                | none => rfl
                | some xs =>
                  simp only
                  cases fillD sz.2 (List.replicate len z) ((qs.map (·.1)).zip xs) with
                  | none => rfl
                  | some l =>
                    cases l with
                    | nil => rfl
                    | cons y ys =>
                      simp only [St.lay]
                      cases s.sto.lay t [some (.rows sz (y :: ys))] <;> rfl
          · rw [if_neg hz, if_neg hz]
    have hs : ∃ sto2, s1 = ⟨s.env, sto2⟩ ∧ SLe s.sto sto2 := by
      simp only [doOp] at e
      cases h1 : evElems s.env ps with
      | none => simp [h1] at e
      | some qs =>
        cases dst with
        | none => simp [h1] at e
        | some t =>
          simp only [h1] at e
          by_cases hz : zero.length = sz.2
          · rw [if_pos hz] at e
            cases h2 : dZ zero with
            | none => simp [h2] at e
            | some ds =>
              simp only [h2] at e
              cases h3 : D.ofCells agg ds with
              | none => simp [h3] at e
              | some z =>
                simp only [h3] at e
                cases h4 : toDs (qs.map (·.2)) with
                | none => simp [h4] at e
                | some xs =>
                  simp only [h4] at e
                  cases h5 : fillD sz.2 (List.replicate len z) ((qs.map (·.1)).zip xs) with
                  | none => simp [h5] at e
                  | some l =>
                    cases l with
                    | nil =>
                      simp only [h5] at e
                      injection e with e; injection e with q1 q2
                      exact ⟨s.sto, by rw [← q2], SLe.refl _⟩
                    | cons y ys =>
                      simp only [h5, St.lay] at e
                      cases h6 : s.sto.lay t [some (.rows sz (y :: ys))] with
                      | none => simp [h6] at e
                      | some sto =>
                        simp only [h6] at e
                        injection e with e; injection e with q1 q2
                        exact ⟨sto, q2.symm, lay_le h6⟩
          · rw [if_neg hz] at e; cases e
    obtain ⟨sto2, h1, h2⟩ := hs
    refine ⟨sto2, h1, fun _ => h2, fun env hl => ?_⟩
    rw [hb env (evElems_like hl), e, h1]
  case storeP n a x =>
    simp only [doOp] at e
    split at e
    case h_2 => cases e
    case h_1 r off v h1 h2 =>
      simp only [storeAt] at e
      split at e
      case h_2 => cases e
      case h_1 s2 hs2 =>
        injection e with e; injection e with q1 q2; subst q1; subst q2
        split at hs2
        case isTrue => cases hs2
        case isFalse hc =>
          split at hs2
          case h_2 => cases hs2
          case h_1 cs hg =>
            split at hs2
            case h_2 => cases hs2
            case h_1 cs' hl =>
              injection hs2 with hs2
              subst hs2
              refine ⟨_, rfl, fun h => by simp [layV] at h, fun env hlk => ?_⟩
              obtain ⟨l1, l2⟩ := Like.app (show Like s.env env (rdX a ++ rdX x) from hlk)
              simp only [doOp, ev_like l1, ev_like l2, h1, h2, storeAt]
              rw [if_neg hc]
              simp only [hg, hl]

theorem wet_form {v : VOper} {s s' : St} (hw : (layV v.op || putV v.op) = true) (e : step1 (real call loop) v s = some s') :
    ∃ u sto2, (layV v.op = true → SLe s.sto sto2) ∧ s' = ⟨putD s.env v.dst u, sto2⟩ ∧ ∀ env, Like s.env env (rdOper v) → step1 (real call loop) v ⟨env, s.sto⟩ = some ⟨putD env v.dst u, sto2⟩ := by
  unfold step1 at e
  split at e
  · rename_i hwt
    split at e
    case h_2 => cases e
    case h_1 u s1 hd1 =>
      injection e with e
      obtain ⟨sto2, h1, h2, h3⟩ := wet_op hw hd1
      subst h1
      refine ⟨u, sto2, h2, e.symm, fun env hl => ?_⟩
      unfold step1
      rw [wanted_like hl, hwt]
      simp only [h3 env (hl.app).2]
  · rename_i hwt
    injection e with e
    refine ⟨.bare, s.sto, fun _ => SLe.refl _, e.symm, fun env hl => ?_⟩
    unfold step1
    rw [wanted_like hl, hwt]
  · cases e

theorem comm_sound {x y : VOper} {s r : St} (h : commV x y = true) (e : execOps (real call loop) [x, y] s = some r) : execOps (real call loop) [y, x] s = some r := by
  simp only [commV, Bool.and_eq_true] at h
  obtain ⟨⟨⟨hk, h3⟩, h4⟩, h5⟩ := h
  rw [execOps_cons] at e ⊢
  cases e1 : step1 (real call loop) x s with
  | none => simp [e1] at e
  | some s1 =>
    simp only [e1, execOps_one] at e
    simp only [kindsV, Bool.or_eq_true, Bool.and_eq_true] at hk
    rcases hk with ((⟨k1, k2⟩ | ⟨k1, k2⟩) | ⟨k1, k2⟩) | ⟨k1, k2⟩
    · obtain ⟨u, m1, m2⟩ := still_form k1 e1
      subst m1
      obtain ⟨u', n1, n2⟩ := still_form k2 e
      have := n2 s.env s.sto (like_put h3) (SLe.refl _)
      rw [show (⟨s.env, s.sto⟩ : St) = s from rfl] at this
      simp only [this, execOps_one]
      rw [m2 _ _ (like_put' h4) (SLe.refl _), n1, putD_comm h5]
    · obtain ⟨u, m1, m2⟩ := still_form k1 e1
      subst m1
      obtain ⟨u', sto2, n0, n1, n2⟩ := wet_form (by simp [k2]) e
      have := n2 s.env (like_put h3)
      rw [show (⟨s.env, s.sto⟩ : St) = s from rfl] at this
      simp only [this, execOps_one]
      rw [m2 _ _ (like_put' h4) (n0 k2), n1, putD_comm h5]
    · obtain ⟨u, m1, m2⟩ := dry_form k1 e1
      subst m1
      obtain ⟨u', sto2, n0, n1, n2⟩ := wet_form (by simpa using k2) e
      have := n2 s.env (like_put h3)
      rw [show (⟨s.env, s.sto⟩ : St) = s from rfl] at this
      simp only [this, execOps_one]
      rw [m2 _ _ (like_put' h4), n1, putD_comm h5]
    · obtain ⟨u, sto2, m0, m1, m2⟩ := wet_form (by simpa using k1) e1
      subst m1
      obtain ⟨u', n1, n2⟩ := dry_form k2 e
      have := n2 s.env s.sto (like_put h3)
      rw [show (⟨s.env, s.sto⟩ : St) = s from rfl] at this
      simp only [this, execOps_one]
      rw [m2 _ (like_put' h4), n1, putD_comm h5]

theorem bubble {x : VOper} : ∀ {B : List VOper} {s r : St}, (∀ b ∈ B, commV x b = true) → execOps (real call loop) (x :: B) s = some r → execOps (real call loop) (B ++ [x]) s = some r
  | [], s, r, _, e => e
  | b :: B, s, r, h, e => by
    have e1 : execOps (real call loop) ([x, b] ++ B) s = some r := e
    rw [execOps_append] at e1
    split at e1
    case h_2 => cases e1
    case h_1 s1 hs1 =>
      have h2 := comm_sound (h b (by simp)) hs1
      rw [execOps_cons] at h2
      split at h2
      case h_2 => cases h2
      case h_1 s2 hs2 =>
        have h3 : execOps (real call loop) (x :: B) s2 = some r := by
          rw [execOps_cons]
          rw [execOps_one] at h2
          rw [h2]
          exact e1
        rw [List.cons_append, execOps_cons, hs2]
        exact bubble (fun c hc => h c (by simp [hc])) h3

def sel (p : Nat → Bool) : Nat → List VOper → List VOper
  | _, [] => []
  | k, v :: vs => if p k then v :: sel p (k + 1) vs else sel p (k + 1) vs
def restOk (dep : Nat → Nat → Bool) (i : Nat) (v : VOper) : Nat → List VOper → Bool
  | _, [] => true
  | j, u :: us => (dep i j || commV v u) && restOk dep i v (j + 1) us
def pairsOk (dep : Nat → Nat → Bool) : Nat → List VOper → Bool
  | _, [] => true
  | k, v :: vs => restOk dep k v (k + 1) vs && pairsOk dep (k + 1) vs

theorem rest_sel {dep : Nat → Nat → Bool} {i : Nat} {v : VOper} {p : Nat → Bool} : ∀ {vs : List VOper} {k : Nat}, restOk dep i v k vs = true → (∀ j, k ≤ j → p j = true → dep i j = false) → ∀ b ∈ sel p k vs, commV v b = true
  | [], k, _, _, b, hb => by simp [sel] at hb
  | u :: us, k, h, hp, b, hb => by
    simp only [restOk, Bool.and_eq_true] at h
    simp only [sel] at hb
    split at hb
    · rename_i hk
      rcases List.mem_cons.1 hb with rfl | hb
      · have := hp k (Nat.le_refl _) hk
        rw [this] at h
        simpa using h.1
      · exact rest_sel h.2 (fun j hj => hp j (by omega)) b hb
    · exact rest_sel h.2 (fun j hj => hp j (by omega)) b hb

theorem exists_sel {dep : Nat → Nat → Bool} {p : Nat → Bool} : ∀ {vs : List VOper} {k : Nat} {s r : St}, pairsOk dep k vs = true → (∀ i j, k ≤ i → i < j → p j = true → dep i j = true → p i = true) → execOps (real call loop) vs s = some r →
    ∃ r1, execOps (real call loop) (sel p k vs) s = some r1
  | [], k, s, r, _, _, e => ⟨s, rfl⟩
  | v :: vs, k, s, r, h, hp, e => by
    simp only [pairsOk, Bool.and_eq_true] at h
    rw [execOps_cons] at e
    split at e
    case h_2 => cases e
    case h_1 s1 hs1 =>
      obtain ⟨r1, hr1⟩ := exists_sel h.2 (fun i j hi => hp i j (by omega)) e
      simp only [sel]
      split
      · exact ⟨r1, by rw [execOps_cons, hs1]; exact hr1⟩
      · rename_i hk
        have hb := bubble (x := v) (B := sel p (k + 1) vs) (s := s) (r := r1) (rest_sel h.1 fun j hj hpj => by
          cases hd : dep k j with
          | false => rfl
          | true => exact (hk (hp k j (Nat.le_refl _) (by omega) hpj hd)).elim) (by rw [execOps_cons, hs1]; exact hr1)
        rw [execOps_append] at hb
        split at hb
        · rename_i s2 hs2; exact ⟨s2, hs2⟩
        · cases hb

theorem sel_congr {p p' : Nat → Bool} : ∀ {vs : List VOper} {k : Nat}, (∀ j, k ≤ j → p j = p' j) → sel p k vs = sel p' k vs
  | [], k, _ => rfl
  | v :: vs, k, h => by simp only [sel, h k (Nat.le_refl _), sel_congr (vs := vs) (k := k + 1) fun j hj => h j (by omega)]

theorem add_sel {dep : Nat → Nat → Bool} {p : Nat → Bool} {i : Nat} (hpi : p i = false) (hdep : ∀ j, i < j → p j = true → dep i j = false) : ∀ {vs : List VOper} {k : Nat} {s r : St} {v : VOper}, pairsOk dep k vs = true → k ≤ i → vs[i - k]? = some v →
    execOps (real call loop) (sel (fun j => p j || j == i) k vs) s = some r → execOps (real call loop) (sel p k vs ++ [v]) s = some r
  | [], k, s, r, v, _, _, hv, _ => by simp at hv
  | u :: us, k, s, r, v, h, hk, hv, e => by
    simp only [pairsOk, Bool.and_eq_true] at h
    by_cases hik : i = k
    · subst hik
      simp at hv
      subst hv
      have e1 : sel (fun j => p j || j == i) i (u :: us) = u :: sel p (i + 1) us := by
        simp only [sel, hpi, beq_self_eq_true, Bool.or_true, if_true]
        congr 1
        exact sel_congr fun j hj => by
          have : (j == i) = false := by simp; omega
          simp [this]
      have e2 : sel p i (u :: us) = sel p (i + 1) us := by simp [sel, hpi]
      rw [e1] at e
      rw [e2]
      exact bubble (rest_sel h.1 fun j hj hpj => hdep j (by omega) hpj) e
    · have hlt : k + 1 ≤ i := by omega
      have hv' : us[i - (k + 1)]? = some v := by
        have : i - k = (i - (k + 1)) + 1 := by omega
        rw [this] at hv
        simpa using hv
      have hki : (k == i) = false := by simp; omega
      simp only [sel, hki, Bool.or_false] at e ⊢
      split at e
      · rename_i hpk
        rw [execOps_cons] at e
        split at e
        case h_2 => cases e
        case h_1 s1 hs1 =>
          have ih := add_sel hpi hdep h.2 hlt hv' e
          simp only [hpk, if_true, List.cons_append]
          rw [execOps_cons, hs1]
          exact ih
      · rename_i hpk
        simp only [hpk, if_false, Bool.false_eq_true]
        exact add_sel hpi hdep h.2 hlt hv' e

theorem sel_all {p : Nat → Bool} : ∀ {vs : List VOper} {k : Nat}, (∀ j, k ≤ j → j < k + vs.length → p j = true) → sel p k vs = vs
  | [], k, _ => rfl
  | v :: vs, k, h => by
    simp only [sel, h k (Nat.le_refl _) (by simp), if_true]
    rw [sel_all fun j hj hl => h j (by omega) (by simp; omega)]

/-! ### the operations of a region, and what they wait for -/

def reaches (ops : Array Oper) : Nat → Nat → Nat → Bool
  | 0, _, _ => false
  | n + 1, j, i => match ops[j]? with
    | some o => o.after.toList.any fun e => Region.binds .any e && (e.on == i || reaches ops n e.on i)
    | none => false
def backOk (ops : Array Oper) : Bool := (List.range ops.size).all fun j => match ops[j]? with
  | some o => o.after.toList.all fun e => !Region.binds .any e || decide (e.on < j)
  | none => true
def okDraw (P : Program) (np : Nat) (ops : Array Oper) (vs : List VOper) : Bool :=
  okIx P np ops (List.range ops.size) vs && backOk ops && pairsOk (fun i j => reaches ops 5 j i) 0 vs

theorem okIx_get {np : Nat} {ops : Array Oper} : ∀ {is : List Nat} {vs : List VOper}, okIx P np ops is vs = true → is.length = vs.length ∧ ∀ (i j : Nat) (v : VOper), is[i]? = some j → vs[i]? = some v → ∃ o, ops[j]? = some o ∧ okOper P np ops o v = true
  | [], [], _ => by simp
  | i :: is, v :: vs, h => by
    simp only [okIx, Bool.and_eq_true] at h
    obtain ⟨h1, h2⟩ := h
    obtain ⟨k1, k2⟩ := okIx_get h2
    refine ⟨by simp [k1], fun m j u hm hu => ?_⟩
    cases m with
    | zero =>
      simp at hm hu
      subst hm; subst hu
      split at h1
      · rename_i o ho; exact ⟨o, ho, h1⟩
      · cases h1
    | succ m => simp at hm hu; exact k2 m j u hm hu
  | [], _ :: _, h => by simp [okIx] at h
  | _ :: _, [], h => by simp [okIx] at h

def Closed (ops : Array Oper) (listed : Array Bool) : Prop := ∀ j, listed.getD j false = true → ∀ o, ops[j]? = some o → ∀ e ∈ o.after, Region.binds .any e = true → listed.getD e.on false = true

theorem closed_reaches {ops : Array Oper} {listed : Array Bool} (hc : Closed ops listed) : ∀ {n j i : Nat}, listed.getD j false = true → reaches ops n j i = true → listed.getD i false = true
  | 0, j, i, _, h => by simp [reaches] at h
  | n + 1, j, i, hj, h => by
    simp only [reaches] at h
    split at h
    case h_2 => cases h
    case h_1 o ho =>
      obtain ⟨e, he, hb⟩ := List.any_eq_true.1 h
      simp only [Bool.and_eq_true, Bool.or_eq_true, beq_iff_eq] at hb
      have h1 := hc j hj o ho e (by simpa using he) hb.1
      rcases hb.2 with h2 | h2
      · exact h2 ▸ h1
      · exact closed_reaches hc h1 h2

def unlisted (listed : Array Bool) : Nat := listed.toList.countP (fun b => !b)

theorem unlisted_set {listed : Array Bool} {i : Nat} (hi : i < listed.size) (h : listed.getD i false = false) : unlisted (listed.setIfInBounds i true) + 1 = unlisted listed := by
  unfold unlisted
  rw [Array.toList_setIfInBounds]
  have key : ∀ (l : List Bool) (i : Nat), l[i]? = some false → (l.set i true).countP (fun b => !b) + 1 = l.countP (fun b => !b) := by
    intro l
    induction l with
    | nil => intro i h; simp at h
    | cons b l ih =>
      intro i h
      cases i with
      | zero => simp at h; subst h; simp [List.countP_cons]
      | succ i =>
        simp at h
        simp only [List.set_cons_succ, List.countP_cons]
        have := ih i h
        omega
  exact key _ i (by simp [Array.getD, hi] at h; simp [hi, h])

theorem draw_sound {np : Nat} {ops : Array Oper} {vs : List VOper} {s0 s' : St} {w0 : World} {L0 : Loc} {Z0 : Nat → Prop} (hco : CallOk P call) (hok : okDraw P np ops vs = true) (e : execOps (real call loop) vs s0 = some s') (Q : Exit → Act → World → Prop)
    (hQ : ∀ a' w' L' Z', RS s' a' w' L' Z' → Tr np s0.sto s'.sto w0 w' L0 L' Z0 Z' → Q .normal a' w') :
    ∀ (fuel : Nat) (listed : Array Bool) (sS : St) (a : Act) (w : World) (L : Loc) (Z : Nat → Prop), listed.size = ops.size → unlisted listed = fuel → Closed ops listed →
      execOps (real call loop) (sel (fun j => listed.getD j false) 0 vs) s0 = some sS → RS sS a w L Z → Tr np s0.sto sS.sto w0 w L0 L Z0 Z → wpAny P .any ops Q fuel listed a w := by
  simp only [okDraw, Bool.and_eq_true] at hok
  obtain ⟨⟨h1, h2⟩, h3⟩ := hok
  obtain ⟨hlen, hget⟩ := okIx_get h1
  have hlen' : vs.length = ops.size := by rw [← hlen]; simp
  have hdone : ∀ (listed : Array Bool) (sS : St) (a : Act) (w : World) (L : Loc) (Z : Nat → Prop), listed.size = ops.size → Region.ready .any ops listed = [] → execOps (real call loop) (sel (fun j => listed.getD j false) 0 vs) s0 = some sS → RS sS a w L Z → Tr np s0.sto sS.sto w0 w L0 L Z0 Z → Q .normal a w := by
    intro listed sS a w L Z hsz hr hs h t
    have hall : ∀ j, j < ops.size → listed.getD j false = true := by
      intro j
      induction j using Nat.strongRecOn with
      | _ j ih =>
        intro hj
        cases hl : listed.getD j false with
        | true => rfl
        | false =>
          exfalso
          have hlt : j < listed.size := by omega
          have hmem : j ∈ Region.ready .any ops listed := by
            rw [mem_ready]
            refine ⟨by simp [Array.getD, hlt] at hl ⊢; exact hl, ops[j], by simp [hj], fun e he hb => ?_⟩
            have := List.all_eq_true.1 h2 j (List.mem_range.2 hj)
            simp only [Array.getElem?_eq_getElem hj] at this
            have := List.all_eq_true.1 this e (by simpa using he)
            simp only [hb, Bool.not_true, Bool.false_or, decide_eq_true_eq] at this
            exact ih e.on this (by omega)
          rw [hr] at hmem
          cases hmem
    rw [sel_all (fun j _ hj => hall j (by omega))] at hs
    rw [e] at hs
    injection hs with hs
    subst hs
    exact hQ a w L Z h t
  intro fuel
  induction fuel with
  | zero =>
    intro listed sS a w L Z hsz hu hc hs h t
    have hr : Region.ready .any ops listed = [] := by
      cases hrr : Region.ready .any ops listed with
      | nil => rfl
      | cons i l =>
        exfalso
        have hm : i ∈ Region.ready .any ops listed := by rw [hrr]; simp
        obtain ⟨m1, o, m2, _⟩ := mem_ready.1 hm
        have hi : i < listed.size := by rw [hsz]; exact (Array.getElem?_eq_some_iff.1 m2).1
        have := unlisted_set hi (by simp [Array.getD, hi] at m1 ⊢; exact m1)
        omega
    exact ⟨hr, hdone listed sS a w L Z hsz hr hs h t⟩
  | succ fuel ih =>
    intro listed sS a w L Z hsz hu hc hs h t
    refine ⟨fun hr => hdone listed sS a w L Z hsz hr hs h t, fun i hi => ?_⟩
    obtain ⟨m1, o, m2, m3⟩ := mem_ready.1 hi
    have hio : i < ops.size := (Array.getElem?_eq_some_iff.1 m2).1
    have hil : i < listed.size := by omega
    have hpi : listed.getD i false = false := by simp [Array.getD, hil] at m1 ⊢; exact m1
    obtain ⟨v, hv⟩ : ∃ v, vs[i]? = some v := ⟨_, List.getElem?_eq_getElem (by omega)⟩
    obtain ⟨o', ho', hoo⟩ := hget i i v (by simp [hio]) hv
    have : o' = o := by rw [m2] at ho'; injection ho' with ho'; exact ho'.symm
    subst this
    have hset : ∀ j, (listed.setIfInBounds i true).getD j false = (listed.getD j false || j == i) := by
      intro j
      by_cases hj : i = j
      · subst hj; simp [Array.getD, hil]
      · rw [getD_set_ne false hj]
        have : (j == i) = false := by simp; exact fun e => hj e.symm
        simp [this]
    have hc' : Closed ops (listed.setIfInBounds i true) := by
      intro j hj oj hoj ee hee hb
      rw [hset] at hj ⊢
      rcases Bool.or_eq_true _ _ ▸ hj with hj | hj
      · rw [hc j hj oj hoj ee hee hb]; rfl
      · have : j = i := by simpa using hj
        subst this
        rw [m2] at hoj; injection hoj with hoj; subst hoj
        rw [m3 ee hee hb]; rfl
    obtain ⟨r1, hr1⟩ := exists_sel (p := fun j => (listed.setIfInBounds i true).getD j false) (k := 0) h3 (fun x y _ _ hy hd => closed_reaches hc' hy hd) e
    have hr1' := hr1
    rw [sel_congr (p' := fun j => listed.getD j false || j == i) (fun j _ => hset j)] at hr1'
    have hadd := add_sel (p := fun j => listed.getD j false) (i := i) (k := 0) (v := v) hpi (fun j _ hj => by
      cases hd : reaches ops 5 j i with
      | false => rfl
      | true => have := closed_reaches hc hj hd; rw [hpi] at this; cases this) h3 (Nat.zero_le _) (by simpa using hv) hr1'
    rw [execOps_append, hs] at hadd
    simp only at hadd
    have hop := oper_sound (np := np) (Q := Q) (K := wpAny P .any ops Q fuel (listed.setIfInBounds i true)) hco h hoo hadd fun s1 a1 w1 L1 Z1 k1 k2 k3 => by
      simp only [execOps] at k3
      injection k3 with k3
      subst k3
      exact ih (listed.setIfInBounds i true) s1 a1 w1 L1 Z1 (by simpa using hsz) (by have := unlisted_set hil hpi; omega) hc' hr1 k1 (t.trans k2)
    unfold wpOp
    simp only [m2]
    exact hop

/-- A drawn region. -/
theorem region_any {np id : Nat} {ops : Array Oper} {vs : List VOper} {s s' : St} {a : Act} {w : World} {L : Loc} {Z : Nat → Prop} (hmix : P.follows .mixedOrders = true) (hco : CallOk P call) (hok : okDraw P np ops vs = true) (h : RS s a w L Z) (e : execOps (real call loop) vs s = some s') (Q : Exit → Act → World → Prop)
    (hQ : ∀ a' w' L' Z', RS s' a' w' L' Z' → Tr np s.sto s'.sto w w' L L' Z Z' → Q .normal a' w') : (Code.region id ops true).wp P Q a w := by
  obtain ⟨k1, k2⟩ := h.more (w' := { w with drawn := w.drawn + 1 }) np (fun _ _ => rfl) (Nat.le_refl _) rfl rfl rfl
  refine wp_region_any hmix (draw_sound hco hok e Q hQ ops.size _ s a _ L Z (by simp) ?_ ?_ ?_ k1 k2)
  · unfold unlisted
    simp [List.countP_replicate]
  · intro j hj
    exfalso
    by_cases hjs : j < ops.size <;> simp [Array.getD, hjs] at hj
  · have : ∀ (vs : List VOper) (k : Nat), sel (fun j => (Array.replicate ops.size false).getD j false) k vs = [] := by
      intro vs
      induction vs with
      | nil => intro k; rfl
      | cons v vs ih =>
        intro k
        have : (Array.replicate ops.size false).getD k false = false := by
          by_cases hk : k < ops.size <;> simp [Array.getD, hk]
        simp only [sel, this, Bool.false_eq_true, if_false, ih]
    rw [this]
    rfl

end
end Go.Vi
