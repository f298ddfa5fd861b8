/- Calls: sound. -/
import Derived.Test.YtdkaahhcejipjaaOVi14
set_option linter.unusedVariables false
set_option linter.unusedSimpArgs false
set_option linter.unnecessarySimpa false
set_option linter.unusedSectionVars false
namespace Go.Vi
open Go Go.RowKit

def callable (P : Program) (f : FuncId) : Bool := match P.funcs[f]? with
  | some fn => fn.body.isSome && !(fn.name == "runtime.NumGoroutine")
  | none => false
/-- What a call promises. -/
def CallOk (P : Program) (call : FuncId → List AV → List (Option Obj) → Option CRes) : Prop :=
  ∀ f as cs c, call f as cs = some c → callable P f = true ∧ ∀ (vs : Array Value) (w : World) (L : Loc) (Z : Nat → Prop), RS ⟨as, [[], cs]⟩ ⟨vs, []⟩ w L Z →
    ∀ Q : Ending → World → Prop, (∀ v w' L' Z', RS ⟨[c.ret], [c.extra, c.pars]⟩ ⟨#[v], []⟩ w' L' Z' → Tr 1 [[], cs] [c.extra, c.pars] w w' L L' Z Z' → Q (.returned v) w') → Calls P f vs w Q

def at? (l : List (Option Obj)) (j : Nat) : Option Obj := match l[j]? with | some o => o | none => none

theorem get2_0 (A B : List (Option Obj)) (j : Nat) : Sto.get [A, B] (0, j) = at? A j := rfl
theorem get2_1 (A B : List (Option Obj)) (j : Nat) : Sto.get [A, B] (1, j) = at? B j := rfl
theorem get2_2 (A B : List (Option Obj)) (i j : Nat) : Sto.get [A, B] (i + 2, j) = none := rfl

theorem at?_some {l : List (Option Obj)} {j : Nat} {o : Obj} (h : at? l j = some o) : l[j]? = some (some o) := by
  unfold at? at h
  split at h
  · rename_i x e; subst h; exact e
  · cases h

theorem at?_map {l : List (Option Obj)} {f : Obj → Obj} {j : Nat} : at? (l.map fun ob => ob.map f) j = (at? l j).map f := by
  unfold at?
  rw [List.getElem?_map]
  cases l[j]? <;> rfl

mutual
theorem forget_false {p : Id → Bool} (h : ∀ r, p r = false) : ∀ a : AV, a.forget p = a
  | .undef => rfl
  | .bare => rfl
  | .d x => rfl
  | .agg as => by simp only [AV.forget, forgetL_false h as]
  | .tup as => by simp only [AV.forget, forgetL_false h as]
  | .nilp => rfl
  | .emp => rfl
  | .ptr r o => by simp [AV.forget, h]
  | .prow r s i o => by simp [AV.forget, h]
  | .sp cs o => rfl
  | .arr r s g u => by simp [AV.forget, h]
  | .fn g as => by simp only [AV.forget, forgetL_false h as]
theorem forgetL_false {p : Id → Bool} (h : ∀ r, p r = false) : ∀ as : List AV, AV.forgetL p as = as
  | [] => rfl
  | a :: as => by simp only [AV.forgetL, forget_false h a, forgetL_false h as]
end
theorem Obj_forget_false {p : Id → Bool} (h : ∀ r, p r = false) : ∀ o : Obj, o.forget p = o := by
  intro o; cases o with
  | box cs => simp [Obj.forget, forgetL_false h]
  | hrows sz xs i off q e => simp [Obj.forget, h]
  | _ => rfl
mutual
theorem map_congr_refs {f g : Id → Id} : ∀ (a : AV), (∀ r ∈ a.refs, f r = g r) → a.map f = a.map g
  | .undef, _ => rfl
  | .bare, _ => rfl
  | .d _, _ => rfl
  | .nilp, _ => rfl
  | .emp, _ => rfl
  | .sp _ _, _ => rfl
  | .agg cs, h => by simp only [AV.map]; rw [mapL_congr_refs cs (by simpa [AV.refs] using h)]
  | .tup cs, h => by simp only [AV.map]; rw [mapL_congr_refs cs (by simpa [AV.refs] using h)]
  | .fn _ cs, h => by simp only [AV.map]; rw [mapL_congr_refs cs (by simpa [AV.refs] using h)]
  | .ptr r _, h => by simp only [AV.map]; rw [h r (by simp [AV.refs])]
  | .prow r _ _ _, h => by simp only [AV.map]; rw [h r (by simp [AV.refs])]
  | .arr r _ _ _, h => by simp only [AV.map]; rw [h r (by simp [AV.refs])]
theorem mapL_congr_refs {f g : Id → Id} : ∀ (as : List AV), (∀ r ∈ AV.refsL as, f r = g r) → AV.mapL f as = AV.mapL g as
  | [], _ => rfl
  | a :: as, h => by
    simp only [AV.mapL]
    rw [map_congr_refs a (fun r hr => h r (by simp [AV.refsL, hr])), mapL_congr_refs as (fun r hr => h r (by simp [AV.refsL, hr]))]
end
theorem Sto_forget_false {p : Id → Bool} (h : ∀ r, p r = false) (s : Sto) : s.forget p = s := by
  unfold Sto.forget
  have h1 : ∀ o : Obj, o.forget p = o := by
    intro o; cases o with
    | box cs => simp [Obj.forget, forgetL_false h]
    | hrows sz xs i off q e => simp [Obj.forget, h]
    | _ => rfl
  have h2 : (fun o : Option Obj => o.map (·.forget p)) = id := by
    funext o; cases o <;> simp [h1]
  have h3 : (fun l : List (Option Obj) => l.map fun o => o.map (·.forget p)) = id := by
    funext l; rw [h2]; simp
  rw [h3]; simp

theorem allSome_at {l : List (Option Obj)} (h : allSome l = true) : ∀ j, j < l.length → (at? l j).isSome := by
  induction l with
  | nil => intro j hj; simp at hj
  | cons o l ih =>
    intro j hj
    cases o with
    | none => simp [allSome] at h
    | some o =>
      cases j with
      | zero => rfl
      | succ j => exact ih (by simpa [allSome] using h) j (by simpa using hj)

section
variable {P : Program} {call : FuncId → List AV → List (Option Obj) → Option CRes} {loop : Nat → St → Option (Out × St)}
variable {s : St} {a : Act} {w : World} {L : Loc} {Z : Nat → Prop}

/-- The callee's names for what it is handed. -/
def inL (ids : List Id) (L : Loc) : Loc := ⟨fun r => if r.1 = 1 then (match ids[r.2]? with | some q => L q | none => none) else none, fun r => match ids[r.2]? with | some q => L.nest q | none => fun _ => False⟩
def inC (s : Sto) (ids : List Id) : List (Option Obj) := ids.map fun r => (s.get r).map (·.map fun r => (1, idx ids r))

theorem inC_at {s : Sto} {ids : List Id} (j : Nat) : at? (inC s ids) j = match ids[j]? with | some q => (s.get q).map (·.map fun r => (1, idx ids r)) | none => none := by
  unfold inC at?
  rw [List.getElem?_map]
  cases ids[j]? <;> rfl

theorem in_get {s : Sto} {ids : List Id} {r : Id} {ob : Obj} (h : Sto.get [[], inC s ids] r = some ob) : ∃ j q o, r = (1, j) ∧ ids[j]? = some q ∧ s.get q = some o ∧ ob = o.map fun r => (1, idx ids r) := by
  obtain ⟨i, j⟩ := r
  match i with
  | 0 => rw [get2_0] at h; simp [at?] at h
  | 1 =>
    rw [get2_1, inC_at] at h
    split at h
    · rename_i q hq
      cases ho : s.get q with
      | none => simp [ho] at h
      | some o => simp [ho] at h; exact ⟨j, q, o, rfl, hq, ho, h.symm⟩
    · cases h
  | i + 2 => rw [get2_2] at h; cases h

theorem in_has {ids : List Id} {L : Loc} {j : Nat} {q : Id} {o : Obj} {f : Id → Id} {b : Nat} (h3 : ids[j]? = some q) : (o.map f).has (inL ids L) (1, j) b ↔ o.has L q b := by
  unfold Obj.has
  simp [inL, h3, Obj.deep_map]
theorem in_lives {s : Sto} {ids : List Id} {L : Loc} {b : Nat} (h : Lives [[], inC s ids] (inL ids L) b) : ∃ q ∈ ids, ∃ o, s.get q = some o ∧ o.has L q b := by
  obtain ⟨r, ob, h1, h2⟩ := h
  obtain ⟨j, q, o, rfl, h3, h4, rfl⟩ := in_get h1
  exact ⟨q, List.mem_of_getElem? h3, o, h4, (in_has h3).1 h2⟩

theorem in_ren {w : World} {Z : Nat → Prop} {s : Sto} {ids : List Id} {L : Loc} {r : Id} (hr : r ∈ ids) : Ren (cxOf w Z L s) ⟨w, Z, inL ids L, Sto.get [[], inC s ids]⟩ (fun r => (1, idx ids r)) r := by
  have h := idx_get hr
  refine ⟨?_, fun k => ?_, fun sz xs k => ?_⟩
  · simp [inL, h]
  · show (Sto.get [[], inC s ids] (1, idx ids r)).isSome
    rw [get2_1, inC_at, h]
    simpa using k
  · show (Sto.get [[], inC s ids] (1, idx ids r)).bind Obj.rw = _
    rw [get2_1, inC_at, h]
    have k' : (s.get r).bind Obj.rw = some (sz, xs) := k
    cases ho : s.get r with
    | none => simp [ho] at k'
    | some o => simp [ho] at k'; simp [ho, Obj.rw_map, k']

theorem call_in (h : RS s a w L Z) {ids : List Id} (hn : ids.Nodup) (hc : ∀ r ∈ ids, ∀ ob, s.sto.get r = some ob → ∀ q ∈ ob.refs, q ∈ ids) {as : List AV} {vs : List Value} (hv : RVs (cxOf w Z L s.sto) as vs) (has : ∀ r ∈ AV.refsL as, r ∈ ids) :
    RS ⟨AV.mapL (fun r => (1, idx ids r)) as, [[], inC s.sto ids]⟩ ⟨vs.toArray, []⟩ w (inL ids L) Z where
  defers := rfl
  env := RVs_map (ob := s.sto.get) as _ (fun r hr => in_ren (has r hr)) (by simpa using hv)
  obj r ob hr := by
    obtain ⟨j, q, o, rfl, h3, h4, rfl⟩ := in_get hr
    have hq : q ∈ ids := List.mem_of_getElem? h3
    exact RO_map (g := s.sto.get) (h.obj q o h4) (by simp [inL, h3]) (fun _ => by simp [inL, h3]) (fun p hp => in_ren (hc q hq o h4 p hp))
  injH r r' b ob ob' ho ho' hb hb' := by
    obtain ⟨j, q, o, rfl, h3, h4, rfl⟩ := in_get ho
    obtain ⟨j', q', o', rfl, h3', h4', rfl⟩ := in_get ho'
    have := h.injH q q' b o o' h4 h4' ((in_has h3).1 hb) ((in_has h3').1 hb')
    subst this
    have := (idx_of hn h3).symm.trans (idx_of hn h3')
    rw [this]
  dis b hb := ⟨(h.dis b hb).1, fun hl => by
    obtain ⟨q, _, o, h2, h3⟩ := in_lives hl
    exact (h.dis b hb).2 ⟨q, o, h2, h3⟩⟩

end
end Go.Vi
