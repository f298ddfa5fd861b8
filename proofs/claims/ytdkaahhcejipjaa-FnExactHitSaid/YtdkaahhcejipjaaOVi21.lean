/- Regions whose order is drawn: operations that leave the store alone may change places. -/
import Derived.Test.YtdkaahhcejipjaaOVi20
import Derived.Orders
set_option linter.unusedVariables false
set_option linter.unusedSimpArgs false
set_option linter.unnecessarySimpa false
set_option linter.unusedSectionVars false
namespace Go.Vi
open Go Go.RowKit
section
variable {P : Program} {call : FuncId → List AV → List (Option Obj) → Option CRes} {loop : Nat → St → Option (Out × St)}
variable {s : St} {a : Act} {w : World} {L : Loc} {Z : Nat → Prop}

def quietV : VOp → Bool
  | .move _ | .pick _ _ _ | .load _ _ _ | .bin _ _ _ _ | .eqNil _ _ | .neg _ | .not _ | .conv _ _ | .mkfn _ _ | .slice _ _ _ _ _ _ | .fieldAddr _ _ | .field _ _ _ _ | .indexAddr _ _ _ | .index _ _ | .extract _ _ | .len _ _ | .build _ _ => true
  | _ => false
def stillV : VOp → Bool
  | .call _ m raw _ => !raw && (m == .pure || m == .bor)
  | .callv _ m raw _ => !raw && (m == .pure || m == .bor)
  | op => quietV op

def rdX : VX → List Nat
  | .tmp t => [t]
  | .const _ => []
def rdO : Option VX → List Nat
  | some x => rdX x
  | none => []
def rdV : VOp → List Nat
  | .move x => rdX x
  | .pick c x y => rdX c ++ rdX x ++ rdX y
  | .load _ _ x => rdX x
  | .bin _ _ x y => rdX x ++ rdX y
  | .neg x => rdX x
  | .eqNil _ x => rdX x
  | .not x => rdX x
  | .conv _ x => rdX x
  | .mkfn _ xs => xs.flatMap rdX
  | .slice _ _ x lo hi mx => rdX x ++ rdO lo ++ rdO hi ++ rdO mx
  | .fieldAddr _ x => rdX x
  | .field _ _ _ x => rdX x
  | .indexAddr _ x i => rdX x ++ rdX i
  | .index x i => rdX x ++ rdX i
  | .extract x _ => rdX x
  | .len _ x => rdX x
  | .build _ ps => ps.flatMap fun p => rdX p.2.2
  | .call _ _ _ xs => xs.flatMap rdX
  | .callv f _ _ xs => rdX f ++ xs.flatMap rdX
  | .box x => rdX x
  | .buildRow _ _ _ _ ps => ps.flatMap fun p => rdX p.2
  | .storeP _ a x => rdX a ++ rdX x
  | _ => []
def rdOper (v : VOper) : List Nat := (match v.guard with | some (t, _) => [t] | none => []) ++ rdV v.op

/-- Two environments that read alike. -/
def Like (e e' : List AV) (ts : List Nat) : Prop := ∀ t ∈ ts, e'[t]? = e[t]?

theorem Like.app {e e' : List AV} {xs ys : List Nat} (h : Like e e' (xs ++ ys)) : Like e e' xs ∧ Like e e' ys :=
  ⟨fun t ht => h t (List.mem_append.2 (.inl ht)), fun t ht => h t (List.mem_append.2 (.inr ht))⟩

theorem ev_like {e e' : List AV} {x : VX} (h : Like e e' (rdX x)) : ev e' x = ev e x := by
  cases x with
  | tmp t => exact h t (by simp [rdX])
  | const a => rfl
theorem evL_like {e e' : List AV} : ∀ {xs : List VX}, Like e e' (xs.flatMap rdX) → evL e' xs = evL e xs
  | [], _ => rfl
  | x :: xs, h => by
    rw [List.flatMap_cons] at h
    obtain ⟨h1, h2⟩ := h.app
    simp only [evL, ev_like h1, evL_like h2]
theorem evO_like {e e' : List AV} {x : Option VX} (h : Like e e' (rdO x)) : evO e' x = evO e x := by
  cases x with
  | none => rfl
  | some x => simp only [evO, ev_like (show Like e e' (rdX x) from h)]
theorem evParts_like {e e' : List AV} : ∀ {xs : List (Nat × Nat × VX)}, Like e e' (xs.flatMap fun p => rdX p.2.2) → evParts e' xs = evParts e xs
  | [], _ => rfl
  | (i, n, x) :: xs, h => by
    rw [List.flatMap_cons] at h
    obtain ⟨h1, h2⟩ := h.app
    simp only [evParts, ev_like (show Like e e' (rdX x) from h1), evParts_like h2]

theorem evalOp_like {o : Ora} {e e' : List AV} {sto : Sto} {op : VOp} (hq : quietV op = true) (h : Like e e' (rdV op)) : evalOp o e' sto op = evalOp o e sto op := by
  cases op <;> first
    | (simp [quietV] at hq; done)
    | (simp only [evalOp, ev_like (show Like e e' (rdX _) from h)]; done)
    | (simp only [evalOp, evL_like (show Like e e' _ from h)]; done)
    | (simp only [evalOp, evParts_like (show Like e e' _ from h)]; done)
    | (have h1 := Like.app h; simp only [evalOp, ev_like h1.1, ev_like h1.2]; done)
    | (have h1 := Like.app h; have h2 := Like.app h1.1; simp only [evalOp, ev_like h1.2, ev_like h2.1, ev_like h2.2]; done)
    | (have h1 := Like.app h; have h2 := Like.app h1.1; have h3 := Like.app h2.1; simp only [evalOp, evO_like h1.2, evO_like h2.2, evO_like h3.2, ev_like h3.1]; done)

theorem quiet_new {o : Ora} {e : List AV} {sto : Sto} {op : VOp} {v : AV} {new : List (Option Obj)} (hq : quietV op = true) (h : evalOp o e sto op = some (v, new)) : new = [] := by
  cases op <;> first
    | (simp [quietV] at hq; done)
    | (simp only [evalOp] at h
       repeat' split at h
       all_goals first | (cases h; done) | (injection h with h; injection h with h1 h2; exact h2.symm))

theorem doOp_quiet {o : Ora} {s : St} {dst : Option Nat} {op : VOp} (hq : quietV op = true) : doOp o s dst op = match evalOp o s.env s.sto op with
    | some (v, []) => some (v, s)
    | some (v, e :: new) => match dst with
      | some t => match s.lay t (e :: new) with
        | some s => some (v.map fun r => if r = (0, 0) then (t, 0) else r, s)
        | none => none
      | none => none
    | none => none := by
  cases op <;> first
    | (simp [quietV] at hq; done)
    | rfl

/-- A store that holds more. -/
def SLe (s s' : Sto) : Prop := ∀ r ob, s.get r = some ob → s'.get r = some ob
theorem SLe.refl (s : Sto) : SLe s s := fun _ _ h => h

theorem content_le {o : Ora} {s s' : Sto} (hs : SLe s s') {a : AV} {xs : List D} (h : content o s a = some xs) : content o s' a = some xs := by
  unfold content at h ⊢
  split at h
  · exact h
  · exact h
  · split at h
    · rename_i hg
      simp only [hs _ _ hg]
      exact h
    · cases h
  · cases h
theorem contentR_le {o : Ora} {s s' : Sto} (hs : SLe s s') {r : Id} {sz : Elt} {g : Option (Int × Int)} {u : Bool} {xs : List D} (h : contentR o s (.arr r sz g u) = some xs) : contentR o s' (.arr r sz g u) = some xs := by
  simp only [contentR] at h ⊢
  cases ho : s.get r with
  | none =>
    rw [ho] at h
    simp only [content, ho] at h
    cases h
  | some ob =>
    rw [hs _ _ ho]
    rw [ho] at h
    cases ob with
    | orows _ _ => exact h
    | hrows _ _ _ _ _ _ => exact h
    | box _ => simp only [content, ho] at h; cases h
    | gone _ _ => simp only [content, ho] at h; cases h
    | rows _ _ => exact content_le hs h
theorem rd_le {s s' : Sto} (hs : SLe s s') {r : Id} {p : Elt × List D} (h : s.rd r = some p) : s'.rd r = some p := by
  unfold Sto.rd at h ⊢
  split at h
  · rename_i hg; rw [hs _ _ hg]; exact h
  · cases h
theorem loadAt_le {o : Ora} {s s' : Sto} (hs : SLe s s') {agg : Bool} {n : Nat} {a v : AV} (h : loadAt o s agg n a = some v) : loadAt o s' agg n a = some v := by
  unfold loadAt at h ⊢
  split at h
  · split at h
    · rename_i hg
      simp only [hs _ _ hg]
      exact h
    · cases h
  · split at h
    · rename_i hg
      simp only [rd_le hs hg]
      exact h
    · cases h
  · exact h
  · cases h
theorem sliceAt_le {o : Ora} {s s' : Sto} (hs : SLe s s') {sz : Elt} {x v : AV} {lo hi mx : Option Int} (h : sliceAt o s sz x lo hi mx = some v) : sliceAt o s' sz x lo hi mx = some v := by
  unfold sliceAt at h ⊢
  cases mx with
  | some m =>
    simp only at h ⊢
    cases hc : content o s x with
    | none => simp [hc] at h
    | some xs => rw [content_le hs hc]; rw [hc] at h; exact h
  | none =>
    simp only at h ⊢
    split at h
    · exact h
    · exact h
    · split at h
      · cases h
      · rename_i hc
        simp only [content_le hs hc]
        exact h
    · cases h
mutual
theorem snap_le {o : Ora} {s s' : Sto} (hs : SLe s s') : ∀ (a : AV) {v : AV}, snap o s a = some v → snap o s' a = some v
  | .emp, v, h => h
  | .arr r sz g u, v, h => by
    simp only [snap] at h ⊢
    cases ho : s.get r with
    | none =>
      rw [ho] at h
      simp only [content, ho] at h
      cases h
    | some ob =>
      rw [hs _ _ ho]
      rw [ho] at h
      cases ob with
      | orows _ _ => exact h
      | box _ => simp only [content, ho] at h; cases h
      | gone _ _ => simp only [content, ho] at h; cases h
      | hrows _ _ _ _ _ _ => simp only [content, ho] at h; cases h
      | rows _ _ =>
        simp only at h ⊢
        split at h
        · rename_i hg; rw [content_le hs hg]; exact h
        · cases h
  | .agg cs, v, h => by
    simp only [snap] at h ⊢
    split at h
    · rename_i hg; rw [snapL_le hs cs hg]; exact h
    · cases h
  | .undef, v, h => h
  | .bare, v, h => h
  | .d _, v, h => h
  | .tup _, v, h => h
  | .nilp, v, h => h
  | .ptr _ _, v, h => h
  | .prow _ _ _ _, v, h => h
  | .sp _ _, v, h => h
  | .fn _ _, v, h => h
theorem snapL_le {o : Ora} {s s' : Sto} (hs : SLe s s') : ∀ (as : List AV) {vs : List AV}, snapL o s as = some vs → snapL o s' as = some vs
  | [], vs, h => h
  | a :: as, vs, h => by
    simp only [snapL] at h ⊢
    split at h
    case h_2 => cases h
    case h_1 x hx =>
      rw [snap_le hs a hx]
      simp only
      split at h
      case h_2 => cases h
      case h_1 xs hxs => rw [snapL_le hs as hxs]; exact h
end
theorem evalOp_le {o : Ora} {e : List AV} {s s' : Sto} (hs : SLe s s') {op : VOp} (hq : quietV op = true) {r : AV × List (Option Obj)} (h : evalOp o e s op = some r) : evalOp o e s' op = some r := by
  cases op <;> first
    | (simp [quietV] at hq; done)
    | exact h
    | skip
  case load agg n a =>
    simp only [evalOp] at h ⊢
    cases h1 : ev e a with
    | none => simp [h1] at h
    | some p =>
      simp only [h1] at h ⊢
      cases h2 : loadAt o s agg n p with
      | none => simp [h2] at h
      | some v => rw [loadAt_le hs h2]; rw [h2] at h; exact h
  case conv c x =>
    simp only [evalOp] at h ⊢
    cases h1 : ev e x with
    | none => simp [h1] at h
    | some a =>
      simp only [h1] at h ⊢
      cases c with
      | int k => cases a <;> first | exact h | (rename_i q; cases q <;> exact h)
      | str => cases a <;> first | exact h | (rename_i q; cases q <;> exact h)
      | bytesToStr =>
        cases h2 : content o s a with
        | none => simp [h2] at h
        | some xs => simp only [content_le hs h2]; simp only [h2] at h; exact h
  case indexAddr sz x i =>
    simp only [evalOp] at h ⊢
    split at h
    · exact h
    · split at h
      · rename_i hc
        simp only [contentR_le hs hc]
        exact h
      · cases h
    · cases h
  case len isS x =>
    simp only [evalOp] at h ⊢
    split at h
    case h_2 => cases h
    case h_1 a h1 =>
      split at h
      · cases h
      · split at h
        · exact h
        · exact h
        · exact h
        · split at h
          · exact h
          · split at h
            · rename_i hc
              simp only [contentR_le hs hc]
              exact h
            · cases h
        · cases h
  case slice isStr sz x lo hi mx =>
    simp only [evalOp] at h ⊢
    split at h
    case h_2 => cases h
    case h_1 x lo hi mx h1 h2 h3 h4 =>
      split at h
      case h_2 => cases h
      case h_1 lo hi mx h5 h6 h7 =>
        split at h
        · exact h
        · split at h
          · rename_i hv
            simp only [sliceAt_le hs hv]
            exact h
          · cases h
        · cases h

theorem reach_nil {s : Sto} {n : Nat} : reach s n [] [] = some [] := by cases n <;> rfl

/-- A call that hands nothing over leaves the store alone. -/
theorem call_still {f : FuncId} {m : CMode} {as : List AV} {dst : Option Nat} {s s' : St} {v : AV} (hm : (m == .pure || m == .bor) = true) (e : doCall (real call loop) f m false as dst s = some (v, s')) :
    s' = s ∧ ∀ env sto', SLe s.sto sto' → doCall (real call loop) f m false as dst ⟨env, sto'⟩ = some (v, ⟨env, sto'⟩) := by
  cases m with
  | frz => simp at hm
  | ref => simp at hm
  | bor =>
    simp only [doCall] at e ⊢
    split at e
    · cases e
    rename_i as' h1
    split at e
    · cases e
    rename_i h2
    split at e
    · cases e
    rename_i c h3
    split at e
    case h_2 => cases e
    case h_1 h4 =>
      injection e with e; injection e with e1 e2; subst e1; subst e2
      refine ⟨rfl, fun env sto' hle => ?_⟩
      simp only [snapL_le hle _ h1, h2, h3, h4]
  | pure =>
    simp only [doCall] at e ⊢
    split at e
    · cases e
    rename_i hp
    have hr : AV.refsL as = [] := by simpa using hp
    simp only [handed] at e ⊢
    split at e
    · cases e
    rename_i as' s2 hsn
    split at hsn
    case h_2 => cases hsn
    case h_1 as'' hsn' =>
      injection hsn with hsn; injection hsn with q1 q2; subst q1; subst q2
      have hr' := snapL_refs as _ hr hsn'
      simp only [hr', reach_nil, List.map_nil] at e
      split at e
      · cases e
      rename_i c hc
      split at e
      · cases e
      rename_i sto hwb
      have hpars : c.pars = [] ∧ sto = s.sto := by
        cases hcp : c.pars with
        | nil => rw [hcp] at hwb; simp only [wrBack] at hwb; injection hwb with hwb; exact ⟨rfl, hwb.symm⟩
        | cons x xs => rw [hcp] at hwb; simp [wrBack] at hwb
      obtain ⟨hpars, rfl⟩ := hpars
      simp only [hpars, St.buried, allSome] at e
      split at e
      · rename_i hX
        injection e with e; injection e with e1 e2; subst e1; subst e2
        refine ⟨rfl, fun env sto' hle => ?_⟩
        simp only [hp, snapL_le hle _ hsn', hr', reach_nil, List.map_nil, hc, hpars, wrBack, St.buried, allSome, hX]
      · simp at e

def step1 (o : Ora) (v : VOper) (s : St) : Option St := match wanted s.env v.guard with
  | some true => match doOp o s v.dst v.op with
    | some (u, s) => some ⟨putD s.env v.dst u, s.sto⟩
    | none => none
  | some false => some ⟨putD s.env v.dst .bare, s.sto⟩
  | none => none

theorem execOps_cons {o : Ora} {v : VOper} {l : List VOper} {s : St} : execOps o (v :: l) s = match step1 o v s with | some s => execOps o l s | none => none := by
  cases h1 : wanted s.env v.guard with
  | none => simp only [execOps, step1, h1]
  | some b =>
    cases b with
    | false => simp only [execOps, step1, h1]
    | true =>
      cases h2 : doOp o s v.dst v.op with
      | none => simp only [execOps, step1, h1, h2]
      | some p => obtain ⟨u, s1⟩ := p; simp only [execOps, step1, h1, h2]
theorem execOps_one {o : Ora} {v : VOper} {s : St} : execOps o [v] s = step1 o v s := by
  rw [execOps_cons]
  cases step1 o v s <;> rfl
theorem execOps_append {o : Ora} : ∀ {l m : List VOper} {s : St}, execOps o (l ++ m) s = match execOps o l s with | some s => execOps o m s | none => none
  | [], m, s => rfl
  | v :: l, m, s => by
    rw [List.cons_append, execOps_cons, execOps_cons]
    cases step1 o v s with
    | none => rfl
    | some s1 => exact execOps_append

theorem still_form {v : VOper} {s s' : St} (hst : stillV v.op = true) (e : step1 (real call loop) v s = some s') :
    ∃ u, s' = ⟨putD s.env v.dst u, s.sto⟩ ∧ ∀ env sto', Like s.env env (rdOper v) → SLe s.sto sto' → step1 (real call loop) v ⟨env, sto'⟩ = some ⟨putD env v.dst u, sto'⟩ := by
  have hw : ∀ {env}, Like s.env env (rdOper v) → wanted env v.guard = wanted s.env v.guard := by
    intro env hl
    obtain ⟨h1, _⟩ := hl.app
    cases hg : v.guard with
    | none => rfl
    | some g =>
      obtain ⟨t, b⟩ := g
      rw [hg] at h1
      simp only [wanted, h1 t (by simp)]
  unfold step1 at e
  split at e
  · rename_i hwt
    have key : ∃ u, doOp (real call loop) s v.dst v.op = some (u, s) ∧ ∀ env sto', Like s.env env (rdOper v) → SLe s.sto sto' → doOp (real call loop) ⟨env, sto'⟩ v.dst v.op = some (u, ⟨env, sto'⟩) := by
      split at e
      case h_2 => cases e
      case h_1 u s1 hd =>
        have quiet : quietV v.op = true → s1 = s ∧ ∀ env sto', Like s.env env (rdOper v) → SLe s.sto sto' → doOp (real call loop) ⟨env, sto'⟩ v.dst v.op = some (u, ⟨env, sto'⟩) := by
          intro hq
          rw [doOp_quiet hq] at hd
          split at hd
          case h_3 => cases hd
          case h_2 u' e' new' hev => have := quiet_new hq hev; cases this
          case h_1 u' hev =>
            injection hd with hd; injection hd with q1 q2; subst q1; subst q2
            refine ⟨rfl, fun env sto' hl hle => ?_⟩
            rw [doOp_quiet hq]
            simp only [evalOp_like hq (hl.app).2, evalOp_le hle hq hev]
        cases hop : v.op with
        | call f m raw xs =>
          rw [hop] at hst hd
          simp only [stillV, Bool.and_eq_true, Bool.not_eq_true'] at hst
          obtain ⟨hraw, hm⟩ := hst
          subst hraw
          simp only [doOp] at hd
          split at hd
          case h_2 => cases hd
          case h_1 as has =>
            obtain ⟨h1, h2⟩ := call_still hm hd
            refine ⟨u, by rw [hop] at *; simp only [doOp, has]; rw [← h1]; rw [h1]; rw [h1] at hd; exact hd, fun env sto' hl hle => ?_⟩
            have hl2 := (hl.app).2
            rw [hop] at hl2
            simp only [doOp, evL_like (show Like s.env env _ from hl2), has]
            exact h2 env sto' hle
        | callv f m raw xs =>
          rw [hop] at hst hd
          simp only [stillV, Bool.and_eq_true, Bool.not_eq_true'] at hst
          obtain ⟨hraw, hm⟩ := hst
          subst hraw
          simp only [doOp] at hd
          split at hd
          case h_2 => cases hd
          case h_1 g cap as hf has =>
            obtain ⟨h1, h2⟩ := call_still hm hd
            refine ⟨u, by rw [h1] at hd; simp only [doOp, hf, has]; exact hd, fun env sto' hl hle => ?_⟩
            have hl2 := (hl.app).2
            rw [hop] at hl2
            obtain ⟨hl3, hl4⟩ := Like.app (show Like s.env env (rdX f ++ xs.flatMap rdX) from hl2)
            simp only [doOp, ev_like hl3, evL_like hl4, hf, has]
            exact h2 env sto' hle
        | _ =>
          rw [hop] at hst
          obtain ⟨h1, h2⟩ := quiet (by rw [hop]; exact hst)
          rw [hop] at hd h2
          exact ⟨u, by rw [h1] at hd; exact hd, h2⟩
    obtain ⟨u, k1, k2⟩ := key
    rw [k1] at e
    injection e with e
    refine ⟨u, e.symm, fun env sto' hl hle => ?_⟩
    unfold step1
    rw [hw hl, hwt]
    simp only [k2 env sto' hl hle]
  · rename_i hwt
    injection e with e
    refine ⟨.bare, e.symm, fun env sto' hl hle => ?_⟩
    unfold step1
    rw [hw hl, hwt]
  · cases e

end
end Go.Vi
