/- A law's whole call; its arguments. -/
import Derived.Test.YtdkaahhcejipjaaOVi28
set_option linter.unusedVariables false
set_option linter.unusedSimpArgs false
set_option linter.unnecessarySimpa false
set_option linter.unusedSectionVars false
namespace Go.Vi
open Go Go.RowKit
section
variable {P : Program} {F : FuncId → Option (VF × Bool)} {T : Nat → Option VL} {o : Ora}

abbrev Old (W : World) (b : Nat) : Prop := b < W.heap.size
/-- How a law's argument stands in the first world: as data. -/
def Arg (W : World) (x : AV) (v : Value) : Prop := RV ⟨W, Old W, Loc.none, Sto.get [[], []]⟩ x v
def Args (W : World) (xs : List AV) (vs : List Value) : Prop := RVs ⟨W, Old W, Loc.none, Sto.get [[], []]⟩ xs vs

theorem law_calls (ho : IsDen F T o) (hmix : P.follows .mixedOrders = true) (hF : ∀ f vf raw, F f = some (vf, raw) → okF P T f vf = true) {f : FuncId} {as : List AV} {args : Array Value} {W : World} (hv : Args W as args.toList)
    (e : o.call f as [] = some ⟨.d (.bool true), [], []⟩) : Calls P f args W fun e w' => e = .returned (.bool true) ∧ Below W.heap.size W w' := by
  have no_obj : ∀ r ob, Sto.get [[], []] r = some ob → False := by
    intro r ob hr
    rcases out_get hr with ⟨_, h2⟩ | ⟨_, h2⟩ <;> simp [at?] at h2
  have no_lives : ∀ b, ¬ Lives [[], []] Loc.none b := fun b ⟨r, ob, h1, _⟩ => no_obj r ob h1
  refine (ho.ok hmix hF e).2 args W Loc.none (Old W) ⟨rfl, hv, fun r ob hr => (no_obj r ob hr).elim, fun r r' b ob ob' hr => (no_obj r ob hr).elim, fun b hb => ⟨hb, no_lives b⟩⟩ _ fun v w' L' Z' k t => ⟨?_, t.os, t.tape, t.output, t.size, fun b hb => t.keep b hb (no_lives b)⟩
  · have h1 := k.env
    simp only [RVs] at h1
    obtain ⟨v', vs', e1, h2, e2⟩ := h1
    subst e2
    have : v = v' := by have : [v] = [v'] := e1; injection this
    subst this
    simp only [RV, RD] at h2
    injection h2 with h2
    rw [h2]

theorem RVs_data {c : Cx} : ∀ {ds : List D} {vs : List Value}, RDs c.w c.Z ds vs → RVs c (ds.map .d) vs
  | [], vs, h => by simp only [RDs] at h; subst h; simp only [List.map_nil, RVs]
  | d :: ds, vs, h => by
    simp only [RDs] at h
    obtain ⟨v, vs', rfl, h1, h2⟩ := h
    simp only [List.map_cons, RVs]
    exact ⟨v, vs', rfl, by simpa only [RV] using h1, RVs_data h2⟩

variable {H : Type} {enc : TypeId × Value → H} {W : World} {spare : Nat → Bool} {held : Bool} {base : Nat} {r : Reach}

theorem arg_struct {S : List TypeId} (hS : plainB P S = true) {t : TypeId} (ht : t ∈ S) {fs : Array Field} (hu : P.underlying t = some (.struct fs)) {v : Value} {d : DataW H} {ps : List MemPlace} (hval : Value.okWide P W r base t v) (h : DataW.Trod enc P W 0 spare held t v d ps) :
    ∃ n ds, Arg W (.agg (ds.map .d)) v ∧ Fits P n t ds := by
  obtain ⟨fuel, h⟩ := h
  obtain ⟨ds, d1, d2⟩ := open_data hS fuel t _ _ ht h
  unfold Value.okWide at hval
  rw [hu] at hval
  obtain ⟨cs, rfl, _⟩ := hval
  refine ⟨fuel, ds, ?_, d2⟩
  unfold Arg
  simp only [RV]
  exact ⟨cs.toList, by simp, RVs_data d1⟩

theorem arg_slice {S : List TypeId} (hS : plainB P S = true) {t e : TypeId} (ht : t ∈ S) (hu : P.underlying t = some (.slice e)) {a : Option Addr} {len cap : Nat} {d : DataW H} {ps : List MemPlace} (h : DataW.Trod enc P W 0 spare held t (.slice a len cap) d ps) :
    ∃ n xs, Arg W (.d (.lst xs)) (.slice a len cap) ∧ Fits P n t [.lst xs] := by
  obtain ⟨fuel, h⟩ := h
  obtain ⟨ds, d1, d2⟩ := open_data hS fuel t _ _ ht h
  have d2' := d2
  cases fuel with
  | zero => simp [Fits] at d2
  | succ n =>
    simp only [Fits, hu] at d2
    obtain ⟨xs, rfl, _⟩ := d2
    refine ⟨n + 1, xs, ?_, d2'⟩
    unfold Arg
    simp only [RV]
    simp only [RDs] at d1
    obtain ⟨u, us, e1, h2, e2⟩ := d1
    subst e2
    have : [Value.slice a len cap] = [u] := e1
    injection this with this
    subst this
    exact h2

end
end Go.Vi
