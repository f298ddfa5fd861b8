/- Code: sound. -/
import Derived.Test.YtdkaahhcejipjaaOVi22a
set_option linter.unusedVariables false
set_option linter.unusedSimpArgs false
set_option linter.unnecessarySimpa false
set_option linter.unusedSectionVars false
namespace Go.Vi
open Go Go.RowKit

def okC (P : Program) (T : Nat → Option VL) (np : Nat) : Code → VC → Bool
  | .skip, .skip => true
  | .region _ ops draw, .reg vs => match draw with
    | true => okDraw P np ops vs
    | false => okIx P np ops (List.range ops.size) vs
  | .region _ ops draw, .regL vs _ => match draw with
    | true => false
    | false => okIx P np ops (List.range ops.size) vs
  | .seq a b, .seq a' b' => okC P T np a a' && okC P T np b b'
  | .seq a b, .clone x y c b' m t dst sz bytes agg zero => okClone P np x y c dst t zero sz agg a && decide ([x, y, c, b', m, t, dst].Nodup) && okC P T np b (.seq (.reg [⟨some b', none, .buildSlice sz agg zero 0 []⟩, ⟨some m, none, .move (.tmp x)⟩, ⟨some t, none, .append sz bytes (.tmp b') (.tmp m)⟩, ⟨some dst, none, .move (.tmp t)⟩]) .ret)
  | .cond c a b, .cond c' a' b' => okX c c' && okC P T np a a' && okC P T np b b'
  | .block id c, .block id' c' => id == id' && okC P T np c c'
  | .loop c, .loop prom _ _ key => (match T key with | some l => okC P T np c l.body | none => false) && prom.all fun p => decide (p.2.2.1 < np)
  | .exit id, .exit id' => id == id'
  | .ret, .ret => true
  | _, _ => false

/-- What a loop goes on with behind a round. -/
def LoopW (P : Program) (c : Code) (Q : Exit → Act → World → Prop) (a : Act) (w : World) : Prop :=
  ∀ (b : Frame) (k : List Item) (cs : List Frame), ∃ e a' w', Q e a' w' ∧ Arrives P (lone (b.at a (.inLoop c :: k)) cs w) b k cs e a' w'

section
variable {P : Program} {Q : Exit → Act → World → Prop}

theorem round_wp {c : Code} {a : Act} {w : World} (h : c.wp P (Exit.then (LoopW P c Q) Q) a w) (b : Frame) (k : List Item) (cs : List Frame) :
    ∃ e a' w', Q e a' w' ∧ Arrives P (lone (b.at a (.code c :: .inLoop c :: k)) cs w) b k cs e a' w' := by
  obtain ⟨e, a₁, w₁, hq, harr⟩ := h b (.inLoop c :: k) cs
  cases e with
  | normal =>
    obtain ⟨e₂, a₂, w₂, hq₂, harr₂⟩ := hq b k cs
    exact ⟨e₂, a₂, w₂, hq₂, .of_steps harr harr₂⟩
  | exit id => exact ⟨_, a₁, w₁, hq, .pass (x := .inLoop c) rfl (fun _ _ => .inl (by simp)) harr⟩
  | goto l => exact ⟨_, a₁, w₁, hq, .pass (x := .inLoop c) rfl (fun _ _ => .inl (by simp)) harr⟩
  | ret => exact ⟨_, a₁, w₁, hq, .pass (x := .inLoop c) rfl (fun _ _ => .inl (by simp)) harr⟩
  | panic ch => exact ⟨_, a₁, w₁, hq, .pass (x := .inLoop c) rfl (fun _ _ => .inl (by simp)) harr⟩
  | outgrown => exact ⟨_, a₁, w₁, hq, .pass (x := .inLoop c) rfl (fun _ _ => .inl (by simp)) harr⟩

theorem loopW_of {c : Code} {a : Act} {w : World} (h : c.wp P (Exit.then (LoopW P c Q) Q) a w) : LoopW P c Q a w := fun b k cs => by
  obtain ⟨e, a', w', hq, harr⟩ := round_wp h b k cs
  exact ⟨e, a', w', hq, .of_steps (.one step_inLoop) harr⟩

theorem loop_of {c : Code} {a : Act} {w : World} (h : c.wp P (Exit.then (LoopW P c Q) Q) a w) : (Code.loop c).wp P Q a w := fun b k cs => by
  obtain ⟨e, a', w', hq, harr⟩ := round_wp h b k cs
  exact ⟨e, a', w', hq, .of_steps (.one step_loop) harr⟩
end

/-- What a loop promises. -/
def LoopOk (P : Program) (T : Nat → Option VL) (loop : Nat → St → Option (Out × St)) : Prop :=
  ∀ key s out s', loop key s = some (out, s') → ∀ l, T key = some l → ∀ (np : Nat) (c : Code), okC P T np c l.body = true → ∀ a w L Z, RS s a w L Z → ∀ Q : Exit → Act → World → Prop,
    (∀ a' w' L' Z', RS s' a' w' L' Z' → Tr np s.sto s'.sto w w' L L' Z Z' → Q (ofOut out) a' w') → c.wp P (Exit.then (LoopW P c Q) Q) a w

section
variable {P : Program} {T : Nat → Option VL} {call : FuncId → List AV → List (Option Obj) → Option CRes} {loop : Nat → St → Option (Out × St)}

theorem exec_sound (hmix : P.follows .mixedOrders = true) (hco : CallOk P call) (hlo : LoopOk P T loop) {np : Nat} : ∀ (c : Code) (vc : VC) (s : St) (out : Out) (s' : St) (a : Act) (w : World) (L : Loc) (Z : Nat → Prop), okC P T np c vc = true → RS s a w L Z →
    exec (real call loop) vc s = some (out, s') → ∀ Q : Exit → Act → World → Prop, (∀ a' w' L' Z', RS s' a' w' L' Z' → Tr np s.sto s'.sto w w' L L' Z Z' → Q (ofOut out) a' w') → c.wp P Q a w := by
  intro c
  induction c with
  | skip =>
    intro vc s out s' a w L Z hok h e Q hQ
    cases vc <;> simp only [okC] at hok <;> first | (cases hok; done) | skip
    simp only [exec] at e
    injection e with e; injection e with e1 e2; subst e1; subst e2
    exact wp_skip (hQ a w L Z h (Tr.refl _ _ _ _ _))
  | region id ops draw =>
    intro vc s out s' a w L Z hok h e Q hQ
    cases vc <;> simp only [okC] at hok <;> first | (cases hok; done) | skip
    · rename_i vs
      simp only [exec] at e
      split at e
      case h_2 => cases e
      case h_1 s1 hs1 =>
        injection e with e; injection e with e1 e2; subst e1; subst e2
        cases draw with
        | true => exact region_any hmix hco hok h hs1 Q hQ
        | false => exact wp_region (ops_sound hco hok h hs1 Q hQ)
    · rename_i vs x
      simp only [exec] at e
      split at e
      case h_2 => cases e
      case h_1 s1 hs1 =>
        split at e
        case h_2 => cases e
        case h_1 s2 hs2 =>
          injection e with e; injection e with e1 e2; subst e1; subst e2
          cases draw with
          | true => cases hok
          | false =>
            refine wp_region (ops_sound hco hok h hs1 Q fun a' w' L' Z' k1 k2 => ?_)
            obtain ⟨L2, m1, m2⟩ := unlend_sound (np := np) k1 hs2
            exact hQ a' w' L2 Z' m1 (k2.trans m2)
  | seq x y ihx ihy =>
    intro vc s out s' a w L Z hok h e Q hQ
    cases vc <;> simp only [okC] at hok <;> first | (cases hok; done) | skip
    · rename_i x' y' c' b' m' t' dst' sz bytes agg zero
      simp only [Bool.and_eq_true, decide_eq_true_eq] at hok
      obtain ⟨⟨hok1, hok2⟩, hok3⟩ := hok
      refine clone_sound (loop := loop) hco h hok1 hok2 e Q hQ fun a1 w1 L1 Z1 s1 s2 out hR he hq => ?_
      exact ihy _ s1 out s2 a1 w1 L1 Z1 hok3 hR he Q hq
    rename_i x' y'
    simp only [Bool.and_eq_true] at hok
    simp only [exec] at e
    refine wp_seq ?_
    split at e
    · rename_i s1 hs1
      refine ihx x' s _ s1 a w L Z hok.1 h hs1 _ fun a1 w1 L1 Z1 k1 k2 => ?_
      exact ihy y' s1 out s' a1 w1 L1 Z1 hok.2 k1 e Q fun a' w' L' Z' m1 m2 => hQ a' w' L' Z' m1 (k2.trans m2)
    · rename_i r hr
      refine ihx x' s out s' a w L Z hok.1 h e _ fun a1 w1 L1 Z1 k1 k2 => ?_
      have := hQ a1 w1 L1 Z1 k1 k2
      cases out with
      | norm => exact (hr s' e).elim
      | ret => exact this
      | exit id => exact this
  | cond c x y ihx ihy =>
    intro vc s out s' a w L Z hok h e Q hQ
    cases vc <;> simp only [okC] at hok <;> first | (cases hok; done) | skip
    rename_i c' x' y'
    simp only [Bool.and_eq_true] at hok
    simp only [exec] at e
    split at e
    case h_2 => cases e
    case h_1 t ht =>
      have hv := ev_sound h hok.1.1 ht
      simp only [RV, RD, List.cons.injEq, and_true] at hv
      refine wp_cond hv ?_
      cases t with
      | true => exact ihx x' s out s' a w L Z hok.1.2 h e Q hQ
      | false => exact ihy y' s out s' a w L Z hok.2 h e Q hQ
  | block id c ih =>
    intro vc s out s' a w L Z hok h e Q hQ
    cases vc <;> simp only [okC] at hok <;> first | (cases hok; done) | skip
    rename_i id' c'
    simp only [Bool.and_eq_true, beq_iff_eq] at hok
    obtain ⟨rfl, hok⟩ := hok
    simp only [exec] at e
    refine wp_block ?_
    split at e
    · rename_i k s1 hs1
      refine ih c' s _ s1 a w L Z hok h hs1 _ fun a1 w1 L1 Z1 k1 k2 => ?_
      simp only [ofOut, Exit.inBlock]
      split at e
      · rename_i hk
        injection e with e; injection e with e1 e2; subst e1; subst e2
        rw [if_pos hk]
        exact hQ a1 w1 L1 Z1 k1 k2
      · rename_i hk
        injection e with e; injection e with e1 e2; subst e1; subst e2
        rw [if_neg hk]
        exact hQ a1 w1 L1 Z1 k1 k2
    · rename_i r hr
      refine ih c' s out s' a w L Z hok h e _ fun a1 w1 L1 Z1 k1 k2 => ?_
      have := hQ a1 w1 L1 Z1 k1 k2
      cases out with
      | norm => exact this
      | ret => exact this
      | exit id => exact (hr id s' e).elim
  | loop c ih =>
    intro vc s out s' a w L Z hok h e Q hQ
    cases vc <;> simp only [okC] at hok <;> first | (cases hok; done) | skip
    rename_i prom le ls key
    simp only [Bool.and_eq_true] at hok
    obtain ⟨hok1, hok2⟩ := hok
    split at hok1
    case h_2 => cases hok1
    case h_1 l hl =>
      simp only [exec] at e
      split at e
      case h_2 => cases e
      case h_1 s1 hs1 =>
        obtain ⟨L1, k1, k2⟩ := promote_sound (np := np) (fun p hp => by simpa using List.all_eq_true.1 hok2 p hp) h hs1
        obtain ⟨m1, m2⟩ := k1.mask np le ls
        exact loop_of (hlo key _ out s' e l hl np c hok1 a w L1 Z m1 Q fun a' w' L' Z' n1 n2 => hQ a' w' L' Z' n1 ((k2.trans m2).trans n2))
  | exit id =>
    intro vc s out s' a w L Z hok h e Q hQ
    cases vc <;> simp only [okC] at hok <;> first | (cases hok; done) | skip
    rename_i id'
    simp only [beq_iff_eq] at hok
    subst hok
    simp only [exec] at e
    injection e with e; injection e with e1 e2; subst e1; subst e2
    exact wp_exit (hQ a w L Z h (Tr.refl _ _ _ _ _))
  | ret =>
    intro vc s out s' a w L Z hok h e Q hQ
    cases vc <;> simp only [okC] at hok <;> first | (cases hok; done) | skip
    simp only [exec] at e
    injection e with e; injection e with e1 e2; subst e1; subst e2
    exact wp_ret (hQ a w L Z h (Tr.refl _ _ _ _ _))
  | _ =>
    intro vc s out s' a w L Z hok
    cases vc <;> simp [okC] at hok

/-- One more round. -/
theorem loopF_ok (hmix : P.follows .mixedOrders = true) (hco : CallOk P call) (hlo : LoopOk P T loop) : LoopOk P T (loopF (real call loop) T) := by
  intro key s out s' e l hl np c hok a w L Z h Q hQ
  unfold loopF at e
  rw [hl] at e
  simp only at e
  split at e
  · rename_i s1 hs1
    refine exec_sound hmix hco hlo c l.body s _ s1 a w L Z hok h hs1 _ fun a1 w1 L1 Z1 k1 k2 => ?_
    obtain ⟨m1, m2⟩ := k1.mask np l.liveE l.liveS
    exact loopW_of (hlo key _ out s' e l hl np c hok a1 w1 L1 Z1 m1 Q fun a' w' L' Z' n1 n2 => hQ a' w' L' Z' n1 ((k2.trans m2).trans n2))
  · rename_i out1 s1 hne hs1
    injection e with e; injection e with e1 e2; subst e1; subst e2
    refine exec_sound hmix hco hlo c l.body s out1 s1 a w L Z hok h hs1 _ fun a1 w1 L1 Z1 k1 k2 => ?_
    obtain ⟨m1, m2⟩ := k1.mask np l.outE l.outS
    have := hQ a1 w1 L1 Z1 m1 (k2.trans m2)
    cases out1 with
    | norm => exact (hne rfl).elim
    | ret => exact this
    | exit id => exact this
  · cases e

end
end Go.Vi
