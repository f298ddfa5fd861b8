/- Piece by piece. -/
import Derived.Test.YtdkaahhcejipjaaOVi30
set_option linter.unusedVariables false
set_option linter.unusedSimpArgs false
set_option linter.unnecessarySimpa false
set_option linter.unusedSectionVars false
namespace Go.Vi
open Go
section
variable {o : Ora}

theorem exec_seq {a b : VC} {s s1 : St} {r : Option (Out × St)} (h1 : exec o a s = some (.norm, s1)) (h2 : exec o b s1 = r) : exec o (.seq a b) s = r := by simp only [exec, h1, h2]
theorem execOps_step {v : VOper} {l : List VOper} {s s1 : St} {r : Option St} (h1 : step1 o v s = some s1) (h2 : execOps o l s1 = r) : execOps o (v :: l) s = r := by rw [execOps_cons, h1]; exact h2
theorem exec_reg {ops : List VOper} {s s1 : St} (h : execOps o ops s = some s1) : exec o (.reg ops) s = some (.norm, s1) := by simp only [exec, h]

def finF (o : Ora) (fn : VF) (raw : Bool) (m : Nat) (s : St) : Option CRes :=
  match getRes o s fn.results with
  | none => none
  | some rs =>
    match handBack o raw (tupA rs) s with
    | none => none
    | some (v, s) =>
      let sto := s.sto
      let pars := (List.range m).map fun i => sto.get (fn.ntmps + i, 0)
      let roots := v.refs ++ pars.flatMap fun | some ob => ob.refs | none => []
      match reach sto 60 (roots.filter fun r => r.1 < fn.ntmps) [] with
      | none => none
      | some ids =>
        match (ids.all fun r => r.1 < fn.ntmps) && v.refs.all fun r => (sto.get r).isSome with
        | false => none
        | true =>
          let out : Id → Id := fun r => if r.1 < fn.ntmps then (0, idx ids r) else (1, r.1 - fn.ntmps)
          some ⟨v.map out, pars.map fun ob => ob.map (·.map out), (ids.map fun r => (sto.get r).map (·.map out))⟩

theorem callF_of {F : FuncId → Option (VF × Bool)} {f : FuncId} {zs : List AV} {cs : List (Option Obj)} {fn : VF} {raw : Bool} {s1 : St} {c : CRes} (hF : F f = some (fn, raw)) (hl : zs.length = fn.nargs)
    (h : exec o fn.body ⟨AV.mapL (fun r => (fn.ntmps + r.2, 0)) zs ++ List.replicate (fn.ntmps - fn.nargs) .bare, List.replicate fn.ntmps [] ++ cs.map fun ob => [ob.map (·.map fun r => (fn.ntmps + r.2, 0))]⟩ = some (.ret, s1))
    (k : finF o fn raw cs.length s1 = some c) : callF o F f zs cs = some c := by
  unfold callF
  rw [hF]
  simp only [hl, ne_eq, not_true_eq_false, if_false]
  rw [h]
  exact k
end
end Go.Vi
