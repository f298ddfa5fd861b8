/- Functions: sound. -/
import Derived.Test.YtdkaahhcejipjaaOVi23
set_option linter.unusedVariables false
set_option linter.unusedSimpArgs false
set_option linter.unnecessarySimpa false
set_option linter.unusedSectionVars false
namespace Go.Vi
open Go Go.RowKit

def okRes (P : Program) : List ResultVar → List (Sum Nat (Nat × Bool × Nat)) → Bool
  | [], [] => true
  | .tmp t :: l, .inl t' :: r => t == t' && okRes P l r
  | .cell a ty :: l, .inr (a', agg, n) :: r => a == a' && (match P.info? ty, P.underlying ty with | some i, some d => i.size == n && agg == aggD d | _, _ => false) && okRes P l r
  | _, _ => false
def okF (P : Program) (T : Nat → Option VL) (f : FuncId) (v : VF) : Bool := match P.funcs[f]? with
  | some fn => match fn.body with
    | some c => !(fn.name == "runtime.NumGoroutine") && v.ntmps == fn.ntmps && decide (v.nargs ≤ v.ntmps) && okRes P fn.results.toList v.results && okC P T v.ntmps c v.body
    | none => false
  | none => false

section
variable {P : Program} {T : Nat → Option VL} {call : FuncId → List AV → List (Option Obj) → Option CRes} {loop : Nat → St → Option (Out × St)}

def resOne (tmps : Array Value) : ResultVar → Sem Value
  | .tmp t => pure (tmps.getD t undef)
  | .cell a t => do loadVar t (← asAddr (tmps.getD a undef))

theorem getRes_sound {s : St} {a : Act} {w : World} {L : Loc} {Z : Nat → Prop} (h : RS s a w L Z) : ∀ {l : List ResultVar} {r : List (Sum Nat (Nat × Bool × Nat))} {xs : List AV}, okRes P l r = true → getRes (real call loop) s r = some xs →
    ∃ vs, (l.mapM (resOne a.tmps)).run P w = .ok vs w ∧ RVs (cxOf w Z L s.sto) xs vs
  | [], [], xs, _, e => by
    simp only [getRes] at e
    injection e with e
    subst e
    exact ⟨[], by simp, by simp only [RVs]⟩
  | .tmp t :: l, .inl t' :: r, xs, hok, e => by
    simp only [okRes, Bool.and_eq_true, beq_iff_eq] at hok
    obtain ⟨rfl, hok⟩ := hok
    simp only [getRes] at e
    split at e
    case h_2 => cases e
    case h_1 x ys hx hys =>
      injection e with e
      subst e
      obtain ⟨vs, h1, h2⟩ := getRes_sound h hok hys
      refine ⟨_ :: vs, ?_, by simp only [RVs]; exact ⟨_, _, rfl, h.get hx, h2⟩⟩
      simp [List.mapM_cons, resOne, h1]
  | .cell q ty :: l, .inr (q', agg, n) :: r, xs, hok, e => by
    simp only [okRes, Bool.and_eq_true, beq_iff_eq] at hok
    obtain ⟨⟨rfl, hok1⟩, hok2⟩ := hok
    split at hok1
    case h_2 => cases hok1
    case h_1 i d hi hd =>
      simp only [Bool.and_eq_true, beq_iff_eq] at hok1
      obtain ⟨rfl, hagg⟩ := hok1
      simp only [getRes] at e
      split at e
      case h_2 => cases e
      case h_1 p hp =>
        split at e
        case h_2 => cases e
        case h_1 x ys hx hys =>
          injection e with e
          subst e
          obtain ⟨vs, h1, h2⟩ := getRes_sound h hok2 hys
          obtain ⟨ad, u, k1, k2, k3⟩ := loadAt_sound (P := P) (w := w) h.obj hi hd hagg (h.get hp) hx
          refine ⟨u :: vs, ?_, by simp only [RVs]; exact ⟨_, _, rfl, k3, h2⟩⟩
          have : (resOne a.tmps (.cell q ty)).run P w = .ok u w := by
            simp [resOne, k1, asAddr, k2]
          simp [List.mapM_cons, this, h1]
  | [], _ :: _, _, hok, _ => by simp [okRes] at hok
  | _ :: _, [], _, hok, _ => by simp [okRes] at hok
  | .tmp _ :: _, .inr _ :: _, _, hok, _ => by simp [okRes] at hok
  | .cell _ _ :: _, .inl _ :: _, _, hok, _ => by simp [okRes] at hok

def tupV : List Value → Value
  | [v] => v
  | vs => .tuple vs.toArray

theorem results_run {fn : Func} {tmps : Array Value} {w : World} {vs : List Value} (h : (fn.results.toList.mapM (resOne tmps)).run P w = .ok vs w) : (results fn tmps).run P w = .ok (tupV vs) w := by
  have hr : ∀ g : ResultVar → Sem Value, g = resOne tmps → Sem.run P (do
      let vs ← List.toArray <$> List.mapM g fn.results.toList
      pure (if h : vs.size = 1 then vs[0] else Value.tuple vs)) w = .ok (tupV vs) w := by
    rintro g rfl
    simp only [Sem.run_bind, Sem.run_map, h, Result.andThen]
    cases vs with
    | nil => simp [tupV]
    | cons v l => cases l with
      | nil => simp [tupV]
      | cons u l => simp [tupV]
  unfold results
  rw [Array.mapM_eq_mapM_toList]
  exact hr _ (by funext x; cases x <;> rfl)

/-! ### in -/

def inn (n : Nat) (r : Id) : Id := (n + r.2, 0)
def sto0 (n : Nat) (cs : List (Option Obj)) : Sto := List.replicate n [] ++ cs.map fun ob => [ob.map (·.map (inn n))]

theorem sto0_get {n : Nat} {cs : List (Option Obj)} {r : Id} {ob : Obj} (h : (sto0 n cs).get r = some ob) : ∃ i o, r = (n + i, 0) ∧ at? cs i = some o ∧ ob = o.map (inn n) := by
  unfold Sto.get sto0 at h
  rw [List.getElem?_append, List.length_replicate] at h
  split at h
  · rename_i l hl
    split at hl
    · rename_i hlt
      simp [hlt] at hl
      subst hl
      simp at h
    · rename_i hlt
      rw [List.getElem?_map] at hl
      cases hc : cs[r.1 - n]? with
      | none => simp [hc] at hl
      | some o =>
        simp [hc] at hl
        subst hl
        obtain ⟨r1, r2⟩ := r
        cases r2 with
        | zero =>
          simp at h
          cases o with
          | none => simp at h
          | some o =>
            simp at h hc hlt
            refine ⟨r1 - n, o, by simp; omega, by simp [at?, hc], h.symm⟩
        | succ k => simp at h
  · cases h

theorem sto0_get' {n : Nat} {cs : List (Option Obj)} {i : Nat} : (sto0 n cs).get (n + i, 0) = (at? cs i).map (·.map (inn n)) := by
  unfold Sto.get sto0 at?
  rw [List.getElem?_append_right (by simp)]
  simp only [List.length_replicate, Nat.add_sub_cancel_left, List.getElem?_map]
  cases cs[i]? with
  | none => rfl
  | some o => simp

def L0 (n : Nat) (L : Loc) : Loc := ⟨fun r => if n ≤ r.1 then L (1, r.1 - n) else none, fun r => if n ≤ r.1 then L.nest (1, r.1 - n) else fun _ => False⟩
theorem L0_has {n i b : Nat} {L : Loc} {o : Obj} {f : Id → Id} : (o.map f).has (L0 n L) (n + i, 0) b ↔ o.has L (1, i) b := by
  unfold Obj.has
  simp [L0, Obj.deep_map]

theorem in_ren0 {w : World} {Z : Nat → Prop} {L : Loc} {n : Nat} {cs : List (Option Obj)} {r : Id} (hr : (Sto.get [[], cs] r).isSome) : Ren ⟨w, Z, L, Sto.get [[], cs]⟩ ⟨w, Z, L0 n L, (sto0 n cs).get⟩ (inn n) r := by
  obtain ⟨o, ho⟩ := Option.isSome_iff_exists.1 hr
  obtain ⟨r1, r2⟩ := r
  match r1 with
  | 0 => rw [get2_0] at ho; simp [at?] at ho
  | 1 =>
    rw [get2_1] at ho
    refine ⟨?_, fun _ => ?_, fun sz xs k => ?_⟩
    · simp [L0, inn]
    · show ((sto0 n cs).get (n + r2, 0)).isSome
      rw [sto0_get', ho]; rfl
    · show ((sto0 n cs).get (n + r2, 0)).bind Obj.rw = _
      have k' : (at? cs r2).bind Obj.rw = some (sz, xs) := k
      rw [ho] at k'
      rw [sto0_get', ho]
      simpa [Obj.rw_map] using k'
  | i + 2 => rw [get2_2] at ho; cases ho

theorem func_in {as : List AV} {cs : List (Option Obj)} {vs : Array Value} {w : World} {L : Loc} {Z : Nat → Prop} (h : RS ⟨as, [[], cs]⟩ ⟨vs, []⟩ w L Z) {n m : Nat} (hm : as.length = m) :
    RS ⟨AV.mapL (inn n) as ++ List.replicate (n - m) .bare, sto0 n cs⟩ ⟨vs ++ Array.replicate (n - vs.size) undef, []⟩ w (L0 n L) Z := by
  have henv := h.env
  have hlen := (RVs_iff.1 henv).1
  have hvs : vs.size = m := by rw [← hm]; simpa using hlen.symm
  have hlives : ∀ b, Lives (sto0 n cs) (L0 n L) b → Lives [[], cs] L b := fun b hl => by
    obtain ⟨q, o, h1, h2⟩ := hl
    obtain ⟨i, o', rfl, h3, rfl⟩ := sto0_get h1
    exact ⟨(1, i), o', h3, L0_has.1 h2⟩
  refine ⟨rfl, ?_, fun r ob hr => ?_, fun r r' b ob ob' ho ho' hb hb' => ?_, fun b hb => ⟨(h.dis b hb).1, fun hl => (h.dis b hb).2 (hlives b hl)⟩⟩
  · have h1 := RVs_map (ob := Sto.get [[], cs]) (ob' := (sto0 n cs).get) (L' := L0 n L) (f := inn n) as _ (fun r hr => in_ren0 (RVs_refs as _ henv r hr)) henv
    rw [RVs_iff] at h1 ⊢
    refine ⟨by simp [hvs, hm] at h1 ⊢; rw [h1.1], fun i x v hx hv => ?_⟩
    have hl1 : (AV.mapL (inn n) as).length = vs.size := by simpa using h1.1
    simp only [Array.toList_append, Array.toList_replicate] at hv
    rw [List.getElem?_append] at hx hv
    rw [hl1] at hx
    simp only [Array.length_toList] at hv
    split at hx
    · rename_i hlt; rw [if_pos hlt] at hv; exact h1.2 i x v hx hv
    · rename_i hlt
      rw [if_neg hlt] at hv
      have hx' : x = .bare := by
        have := List.mem_of_getElem? hx
        exact (List.mem_replicate.1 this).2
      have hv' : v = undef := by
        have := List.mem_of_getElem? hv
        exact (List.mem_replicate.1 this).2
      subst hx'; subst hv'
      simp only [RV]
  · obtain ⟨i, o, rfl, h3, rfl⟩ := sto0_get hr
    have hro := h.obj (1, i) o h3
    exact RO_map (g := Sto.get [[], cs]) hro (by simp [L0]) (fun _ => by simp [L0]) (fun q hq => in_ren0 (RO_refs hro q hq))
  · obtain ⟨i, o, rfl, h3, rfl⟩ := sto0_get ho
    obtain ⟨i', o', rfl, h3', rfl⟩ := sto0_get ho'
    have := h.injH (1, i) (1, i') b o o' h3 h3' (L0_has.1 hb) (L0_has.1 hb')
    simp at this
    rw [this]

end
end Go.Vi
