/- More calls and loops that answer: nothing that answered answers otherwise. -/
import Derived.Test.YtdkaahhcejipjaaOVi25
set_option linter.unusedVariables false
set_option linter.unusedSimpArgs false
set_option linter.unnecessarySimpa false
set_option linter.unusedSectionVars false
namespace Go.Vi
open Go Go.RowKit
section
variable {call call' : FuncId → List AV → List (Option Obj) → Option CRes} {loop loop' : Nat → St → Option (Out × St)}

theorem content_real (s : Sto) (x : AV) : content (real call loop) s x = content (real call' loop') s x := by
  cases x <;> rfl

theorem froze_real : (real call loop).froze = (real call' loop').froze := rfl
theorem closedO_real : ∀ X : List (Option Obj), closedO (real call loop) X = closedO (real call' loop') X
  | [] => rfl
  | none :: _ => rfl
  | some (.box _) :: _ => rfl
  | some (.hrows _ _ _ _ _ _) :: _ => rfl
  | some (.gone _ _) :: _ => rfl
  | some (.rows _ xs) :: l => by
    simp only [closedO]
    rw [show (real call loop).closed xs = (real call' loop').closed xs from rfl, closedO_real l]
  | some (.orows _ xs) :: l => by
    simp only [closedO]
    rw [show (real call loop).closed xs = (real call' loop').closed xs from rfl, closedO_real l]

mutual
theorem fz_real : ∀ (x : AV) (s : St), fz (real call loop) s x = fz (real call' loop') s x
  | .emp, s => rfl
  | .arr r sz g u, s => by simp only [fz, content_real (call := call) (call' := call') (loop := loop) (loop' := loop'), froze_real (call := call) (call' := call') (loop := loop) (loop' := loop')]
  | .agg cs, s => by simp only [fz, fzL_real cs s]
  | .tup cs, s => by simp only [fz, fzL_real cs s]
  | .undef, s => rfl
  | .bare, s => rfl
  | .d _, s => rfl
  | .nilp, s => rfl
  | .ptr _ _, s => rfl
  | .prow _ _ _ _, s => rfl
  | .sp _ _, s => rfl
  | .fn _ _, s => rfl
theorem fzL_real : ∀ (xs : List AV) (s : St), fzL (real call loop) s xs = fzL (real call' loop') s xs
  | [], s => rfl
  | x :: xs, s => by
    simp only [fzL, fz_real x s]
    split
    · rename_i y s2 h; rw [fzL_real xs s2]
    · rfl
end

mutual
theorem snap_real : ∀ (x : AV) (s : Sto), snap (real call loop) s x = snap (real call' loop') s x
  | .emp, s => rfl
  | .arr r sz g u, s => by simp only [snap, content_real (call := call) (call' := call') (loop := loop) (loop' := loop'), froze_real (call := call) (call' := call') (loop := loop) (loop' := loop')]
  | .agg cs, s => by simp only [snap, snapL_real cs s]
  | .tup cs, s => rfl
  | .undef, s => rfl
  | .bare, s => rfl
  | .d _, s => rfl
  | .nilp, s => rfl
  | .ptr _ _, s => rfl
  | .prow _ _ _ _, s => rfl
  | .sp _ _, s => rfl
  | .fn _ _, s => rfl
theorem snapL_real : ∀ (xs : List AV) (s : Sto), snapL (real call loop) s xs = snapL (real call' loop') s xs
  | [], s => rfl
  | x :: xs, s => by
    simp only [snapL, snap_real x s]
    split
    · rw [snapL_real xs s]
    · rfl
end

theorem handed_real (m : CMode) (as : List AV) (s : St) : handed (real call loop) m as s = handed (real call' loop') m as s := by
  cases m with
  | ref => rfl
  | frz => exact fzL_real as s
  | pure => simp only [handed, snapL_real (call := call) (call' := call') (loop := loop) (loop' := loop') as s.sto]
  | bor => simp only [handed, snapL_real (call := call) (call' := call') (loop := loop) (loop' := loop') as s.sto]

theorem ownA_real (s : St) : ∀ x : AV, ownA (real call loop) s x = ownA (real call' loop') s x := by
  intro x
  cases x <;> rfl
theorem ownL_real : ∀ (xs : List AV) (s : St), ownL (real call loop) s xs = ownL (real call' loop') s xs
  | [], s => rfl
  | x :: xs, s => by
    simp only [ownL, ownA_real (call := call) (call' := call') (loop := loop) (loop' := loop') s x]
    split
    · rename_i y s2 h; rw [ownL_real xs s2]
    · rfl
theorem ownR_real (s : St) (sz : Elt) (x : AV) : ownR (real call loop) s sz x = ownR (real call' loop') s sz x := by
  cases x <;> rfl
theorem promote_real : ∀ (ps : List (Nat × Option Nat × Nat × Elt × Bool)) (s : St), promote (real call loop) ps s = promote (real call' loop') ps s
  | [], s => rfl
  | (t, none, slot, sz, own) :: ps, s => by
    simp only [promote, promote_real ps]
    rfl
  | (t, some c, slot, sz, own) :: ps, s => by
    simp only [promote, promote_real ps]
    rfl
theorem unlend_real (x : VX) (s : St) : unlend (real call loop) x s = unlend (real call' loop') x s := rfl

theorem storeAt_real (s : St) (n : Nat) (p x : AV) : storeAt (real call loop) s n p x = storeAt (real call' loop') s n p x := by
  unfold storeAt
  simp only [fzL_real (call := call) (call' := call') (loop := loop) (loop' := loop'), ownL_real (call := call) (call' := call') (loop := loop) (loop' := loop')]
  rfl

theorem evalOp_real (env : List AV) (s : Sto) (op : VOp) : evalOp (real call loop) env s op = evalOp (real call' loop') env s op := by
  cases op <;> rfl

variable (hc : ∀ f as cs c, call f as cs = some c → call' f as cs = some c) (hl : ∀ k s r, loop k s = some r → loop' k s = some r)
include hc in
theorem doCall_mono {f : FuncId} {m : CMode} {raw : Bool} {as : List AV} {dst : Option Nat} {s : St} {r : AV × St} (e : doCall (real call loop) f m raw as dst s = some r) : doCall (real call' loop') f m raw as dst s = some r := by
  unfold doCall at e ⊢
  rw [snapL_real (call' := call') (loop' := loop')] at e
  cases m with
  | bor =>
    simp only at e ⊢
    split at e
    · cases e
    rename_i as' h1
    split at e
    · cases e
    rename_i h2
    split at e
    · cases e
    rename_i c h3
    have h4 : (real call' loop').call f as' [] = some c := hc f as' [] c h3
    simp only [h1, h2, h4]
    rw [closedO_real (call' := call') (loop' := loop')] at e
    exact e
  | _ =>
    simp only at e ⊢
    rw [handed_real (call' := call') (loop' := loop')] at e
    split at e
    · cases e
    rename_i hp
    split at e
    · cases e
    rename_i as' s2 h1
    split at e
    · cases e
    rename_i ids h2
    split at e
    · cases e
    rename_i c h3
    have h4 := hc _ _ _ _ h3
    have h5 : (real call' loop').call f (AV.mapL (fun r => (1, idx ids r)) as') (ids.map fun r => (s2.sto.get r).map (·.map fun r => (1, idx ids r))) = some c := h4
    simp only [hp, h1, h2, h5]
    exact e

include hc in
theorem doOp_mono {s : St} {dst : Option Nat} {op : VOp} {r : AV × St} (e : doOp (real call loop) s dst op = some r) : doOp (real call' loop') s dst op = some r := by
  by_cases hq : quietV op = true
  · rw [doOp_quiet hq] at e ⊢
    rw [evalOp_real (call' := call') (loop' := loop')] at e
    exact e
  · cases op <;> first
      | (exact (hq rfl).elim)
      | (simp only [doOp] at e ⊢; rw [evalOp_real (call' := call') (loop' := loop')] at e; exact e)
      | (simp only [doOp, storeAt_real (call := call) (call' := call') (loop := loop) (loop' := loop')] at e ⊢; exact e)
      | (simp only [doOp] at e ⊢; exact e)
      | (simp only [doOp, ownL_real (call := call) (call' := call') (loop := loop) (loop' := loop')] at e ⊢; exact e)
      | (simp only [doOp, ownR_real (call := call) (call' := call') (loop := loop) (loop' := loop'), ownA_real (call := call) (call' := call') (loop := loop) (loop' := loop')] at e ⊢; exact e)
      | (simp only [doOp, fzL_real (call := call) (call' := call') (loop := loop) (loop' := loop')] at e ⊢; exact e)
      | (simp only [doOp] at e ⊢; split at e; · exact doCall_mono hc e
         · cases e)
      | (simp only [doOp, content_real (call := call) (call' := call') (loop := loop) (loop' := loop')] at e ⊢; exact e)

include hc in
theorem execOps_mono : ∀ {l : List VOper} {s s' : St}, execOps (real call loop) l s = some s' → execOps (real call' loop') l s = some s'
  | [], s, s', e => e
  | v :: l, s, s', e => by
    rw [execOps_cons] at e ⊢
    split at e
    case h_2 => cases e
    case h_1 s1 hs1 =>
      have : step1 (real call' loop') v s = some s1 := by
        unfold step1 at hs1 ⊢
        split at hs1
        · split at hs1
          case h_2 => cases hs1
          case h_1 u s2 hd =>
            rw [doOp_mono hc hd]
            exact hs1
        · exact hs1
        · cases hs1
      rw [this]
      exact execOps_mono e

include hc hl in
theorem exec_mono : ∀ {c : VC} {s : St} {r : Out × St}, exec (real call loop) c s = some r → exec (real call' loop') c s = some r := by
  intro c
  induction c with
  | skip => intro s r e; exact e
  | reg ops =>
    intro s r e
    simp only [exec] at e ⊢
    split at e
    case h_2 => cases e
    case h_1 s1 hs1 => rw [execOps_mono hc hs1]; exact e
  | regL ops x =>
    intro s r e
    simp only [exec] at e ⊢
    split at e
    case h_2 => cases e
    case h_1 s1 hs1 =>
      rw [execOps_mono hc hs1]
      simp only
      rw [unlend_real (call' := call') (loop' := loop')] at e
      exact e
  | clone x y c b m t dst sz bytes agg zero => intro s r e; exact e
  | seq a b iha ihb =>
    intro s r e
    simp only [exec] at e ⊢
    split at e
    · rename_i s1 hs1; rw [iha hs1]; exact ihb e
    · rename_i x hx
      rw [iha e]
      obtain ⟨out, s'⟩ := r
      cases out with
      | norm => exact (hx s' e).elim
      | ret => rfl
      | exit id => rfl
  | cond c a b iha ihb =>
    intro s r e
    simp only [exec] at e ⊢
    split at e
    case h_2 => cases e
    case h_1 t ht =>
      cases t with
      | true => exact iha e
      | false => exact ihb e
  | block id c ih =>
    intro s r e
    simp only [exec] at e ⊢
    split at e
    · rename_i k s1 hs1; rw [ih hs1]; exact e
    · rename_i x hx
      rw [ih e]
      obtain ⟨out, s'⟩ := r
      cases out with
      | norm => rfl
      | ret => rfl
      | exit id' => exact (hx id' s' e).elim
  | loop prom le ls key =>
    intro s r e
    simp only [exec] at e ⊢
    split at e
    case h_2 => cases e
    case h_1 s1 hs1 =>
      rw [promote_real (call' := call') (loop' := loop')] at hs1
      rw [hs1]
      exact hl key _ r e
  | exit id => intro s r e; exact e
  | ret => intro s r e; exact e

include hc hl in
theorem loopF_mono {T : Nat → Option VL} {k : Nat} {s : St} {r : Out × St} (e : loopF (real call loop) T k s = some r) : loopF (real call' loop') T k s = some r := by
  unfold loopF at e ⊢
  split at e
  · cases e
  rename_i l ht
  split at e
  · rename_i s1 hs1
    rw [exec_mono hc hl hs1]
    exact hl k _ r e
  · rename_i out1 s1 hne hs1
    rw [exec_mono hc hl hs1]
    cases out1 with
    | norm => exact (hne rfl).elim
    | ret => exact e
    | exit id' => exact e
  · cases e

theorem getRes_real {s : St} : ∀ {r : List (Sum Nat (Nat × Bool × Nat))}, getRes (real call loop) s r = getRes (real call' loop') s r
  | [] => rfl
  | .inl t :: l => by simp only [getRes, getRes_real (r := l)]
  | .inr (t, agg, n) :: l => by
    simp only [getRes, getRes_real (r := l)]
    rfl

include hc hl in
theorem callF_mono {F : FuncId → Option (VF × Bool)} {f : FuncId} {as : List AV} {cs : List (Option Obj)} {c : CRes} (e : callF (real call loop) F f as cs = some c) : callF (real call' loop') F f as cs = some c := by
  unfold callF at e ⊢
  split at e
  · cases e
  rename_i vf raw hf
  simp only at e ⊢
  split at e
  · cases e
  rename_i hlen
  rw [if_neg hlen]
  split at e
  · cases e
  · cases e
  rename_i out s1 hne hex
  rw [exec_mono hc hl hex]
  rw [getRes_real (call' := call') (loop' := loop')] at e
  have hb : ∀ v s, handBack (real call loop) raw v s = handBack (real call' loop') raw v s := fun v s => by
    cases raw with
    | true => rfl
    | false => exact fz_real v s
  simp only [hb] at e
  cases out with
  | norm => exact e
  | ret => exact e
  | exit id => exact (hne id rfl).elim

end
end Go.Vi
