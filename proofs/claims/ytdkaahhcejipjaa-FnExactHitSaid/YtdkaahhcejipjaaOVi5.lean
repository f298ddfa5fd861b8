/- The operations: what the interpreter's form of one must be, and that it tells the truth. -/
import Derived.Test.YtdkaahhcejipjaaOVi4
import Derived.Laws.Slices
import Derived.Laws.Entries
set_option linter.unusedVariables false
set_option linter.unusedSimpArgs false
set_option linter.unnecessarySimpa false
set_option linter.unusedSectionVars false
namespace Go.Vi
open Go Go.RowKit

def valOk1 : Value → AV → Bool
  | _, .undef => true
  | .int k n, .d (.int k' n') => k == k' && n == n'
  | .bool b, .d (.bool b') => b == b'
  | .string s, .d (.str s') => s.data == s'.data
  | .slice none 0 0, .emp => true
  | .pointer none, .nilp => true
  | _, _ => false
def valOkL : List Value → List AV → Bool
  | [], [] => true
  | v :: vs, a :: as => valOk1 v a && valOkL vs as
  | _, _ => false
def valOk : Value → AV → Bool
  | .agg vs, .agg as => valOkL vs.toList as
  | v, a => valOk1 v a
def okX : Operand → VX → Bool
  | .tmp t, .tmp t' => t == t'
  | .const v, .const a => valOk v a
  | .func f, .const (.fn g []) => f == g
  | _, _ => false
def okXL : List Operand → List VX → Bool
  | [], [] => true
  | x :: xs, y :: ys => okX x y && okXL xs ys
  | _, _ => false
def okXO : Option Operand → Option VX → Bool
  | none, none => true
  | some x, some y => okX x y
  | _, _ => false

theorem valOk1_sound {c : Cx} {v : Value} {a : AV} (h : valOk1 v a = true) : RV c a v := by
  unfold valOk1 at h
  split at h
  · simp only [RV]
  · simp only [Bool.and_eq_true, beq_iff_eq] at h; obtain ⟨rfl, rfl⟩ := h; simp only [RV, RD]
  · simp only [beq_iff_eq] at h; subst h; simp only [RV, RD]
  · simp only [beq_iff_eq] at h; simp only [RV, RD, List.cons.injEq, Value.string.injEq, and_true]; exact ByteArray.ext h
  · simp only [RV]; exact ⟨_, rfl⟩
  · simp only [RV]
  · cases h
theorem valOkL_sound {c : Cx} : ∀ {vs : List Value} {as : List AV}, valOkL vs as = true → RVs c as vs
  | [], [], _ => by simp only [RVs]
  | v :: vs, a :: as, h => by
    simp only [valOkL, Bool.and_eq_true] at h
    simp only [RVs]
    exact ⟨v, vs, rfl, valOk1_sound h.1, valOkL_sound h.2⟩
  | [], _ :: _, h => by simp [valOkL] at h
  | _ :: _, [], h => by simp [valOkL] at h
theorem valOk_sound {c : Cx} {v : Value} {a : AV} (h : valOk v a = true) : RV c a v := by
  unfold valOk at h
  split at h
  · simp only [RV]; exact ⟨_, (Array.toArray_toList).symm ▸ rfl, valOkL_sound h⟩
  · exact valOk1_sound h

section
variable {P : Program} {call : FuncId → List AV → List (Option Obj) → Option CRes} {loop : Nat → St → Option (Out × St)}
variable {s : St} {a : Act} {w : World} {L : Loc} {Z : Nat → Prop}

theorem ev_sound (h : RS s a w L Z) {x : Operand} {x' : VX} (hx : okX x x' = true) {y : AV} (e : ev s.env x' = some y) : RV (cxOf w Z L s.sto) y (a.eval x) := by
  unfold okX at hx
  split at hx
  · simp only [beq_iff_eq] at hx; subst hx; simp only [ev] at e; exact h.get e
  · simp only [ev] at e; injection e with e; subst e; exact valOk_sound hx
  · simp only [beq_iff_eq] at hx; subst hx; simp only [ev] at e; injection e with e; subst e
    simp only [RV]; exact ⟨[], rfl, by simp only [RVs]⟩
  · cases hx
theorem evL_sound (h : RS s a w L Z) : ∀ {xs : List Operand} {xs' : List VX}, okXL xs xs' = true → ∀ {ys : List AV}, evL s.env xs' = some ys → RVs (cxOf w Z L s.sto) ys (xs.map a.eval)
  | [], [], _, ys, e => by simp only [evL] at e; injection e with e; subst e; simp only [RVs, List.map_nil]
  | x :: xs, x' :: xs', hx, ys, e => by
    simp only [okXL, Bool.and_eq_true] at hx
    simp only [evL] at e
    split at e
    case h_2 => cases e
    case h_1 y e1 =>
      split at e
      case h_2 => cases e
      case h_1 ys' e2 =>
        injection e with e
        subst e
        simp only [RVs, List.map_cons]
        exact ⟨_, _, rfl, ev_sound h hx.1 e1, evL_sound h hx.2 e2⟩
  | [], _ :: _, h, _, _ => by simp [okXL] at h
  | _ :: _, [], h, _, _ => by simp [okXL] at h

/-- What an operation's step must lead to. -/
def Goes (P : Program) (np : Nat) (o : Oper) (s : St) (a : Act) (w : World) (L : Loc) (Z : Nat → Prop) (x : AV) (s' : St) : Prop :=
  ∀ (K : Act → World → Prop) (Q : Exit → Act → World → Prop),
    (∀ u w' L' Z', RS s' a w' L' Z' → Tr np s.sto s'.sto w w' L L' Z Z' → RV (cxOf w' Z' L' s'.sto) x u → K (a.put o.dst u) w') → o.wp P a w K Q

theorem Goes.value {np : Nat} {o : Oper} {x : AV} {s' : St} {u : Value} {w' : World} {L' : Loc} {Z' : Nat → Prop} (e : (execOp a.eval o).run P w = .ok (.value u) w')
    (h : RS s' a w' L' Z') (t : Tr np s.sto s'.sto w w' L L' Z Z') (hv : RV (cxOf w' Z' L' s'.sto) x u) : Goes P np o s a w L Z x s' := by
  intro K Q hk
  unfold Oper.wp
  rw [e]
  exact hk u w' L' Z' h t hv

theorem Goes.skip {np : Nat} {o : Oper} {s' : St} {w' : World} {L' : Loc} {Z' : Nat → Prop} (e : (execOp a.eval o).run P w = .ok .skip w')
    (h : RS s' a w' L' Z') (t : Tr np s.sto s'.sto w w' L L' Z Z') : Goes P np o s a w L Z .bare s' := by
  intro K Q hk
  unfold Oper.wp
  rw [e]
  exact hk undef w' L' Z' h t (by simp only [RV])

/-- A value that turns nothing. -/
theorem Goes.pure {np : Nat} {o : Oper} {x : AV} {u : Value} (h : RS s a w L Z) (e : (execOp a.eval o).run P w = .ok (.value u) w) (hv : RV (cxOf w Z L s.sto) x u) : Goes P np o s a w L Z x s :=
  Goes.value e h (Tr.refl _ _ _ _ _) hv

theorem run_v {o : Oper} {ρ : Operand → Value} {m : Sem Value} {u : Value} {w' : World} (e : execOp ρ o = (do pure (.value (← m)))) (hm : m.run P w = .ok u w') : (execOp ρ o).run P w = .ok (.value u) w' := by
  rw [e]; simp [hm]

/-! ### values alone -/

theorem goes_move (np : Nat) (h : RS s a w L Z) {o : Oper} {x : Operand} {x' : VX} (ho : o.op = .move x ∨ o.op = .assign x) (hx : okX x x' = true) {y : AV} (e : ev s.env x' = some y) : Goes P np o s a w L Z y s := by
  refine Goes.pure h (u := a.eval x) ?_ (ev_sound h hx e)
  rcases ho with ho | ho <;> (unfold execOp; rw [ho]; rfl)

theorem goes_pick (np : Nat) (h : RS s a w L Z) {o : Oper} {c x y : Operand} {c' x' y' : VX} (ho : o.op = .pick c x y) (hc : okX c c' = true) (hx : okX x x' = true) (hy : okX y y' = true) {t : Bool} {u v : AV}
    (e1 : ev s.env c' = some (.d (.bool t))) (e2 : ev s.env x' = some u) (e3 : ev s.env y' = some v) : Goes P np o s a w L Z (match t with | true => u | false => v) s := by
  have h1 := ev_sound h hc e1
  simp only [RV, RD] at h1
  injection h1 with h1
  refine Goes.pure h (u := if t then a.eval x else a.eval y) ?_ ?_
  · unfold execOp; rw [ho]; simp [h1, asBool]
  · cases t
    · exact ev_sound h hy e3
    · exact ev_sound h hx e2

theorem int_run {op : BinOp} {t : TypeId} {k k' : IntKind} {p q : Int} {r : AV} (e : bin (real call loop) op (.d (.int k p)) (.d (.int k' q)) = some r) :
    ∃ m, (binOp op t (.int k p) (.int k' q)).run P w = .ok m w ∧ ∀ c, RV c r m := by
  unfold bin at e
  simp only [real, Ora.ar, Ora.cmp, Ora.isZero] at e
  cases op <;> simp only at e <;> (repeat' split at e) <;> first
    | (cases e; done)
    | (rename_i hk _ hq; cases e; subst hk; refine ⟨_, ?_, fun c => by simp only [RV, RD, arI, cmpI]; rfl⟩; have hq' : ¬ q = 0 := (by simpa using hq); simp [binOp, Op.intDiv, hq']; done)
    | (rename_i hq; cases e; refine ⟨_, ?_, fun c => by simp only [RV, RD, arI, cmpI]; rfl⟩; have hq' : ¬ q < 0 := (by simpa [cmpI] using hq); simp [binOp, Op.shift, hq']; done)
    | (rename_i hk; cases e; subst hk; refine ⟨_, ?_, fun c => by simp only [RV, RD, arI, cmpI]; rfl⟩; simp [binOp, Op.intArith, Op.intBits, Op.intCmp]; done)

theorem str_run {op : BinOp} {t : TypeId} {p q : ByteArray} {r : AV} (e : bin (real call loop) op (.d (.str p)) (.d (.str q)) = some r) :
    ∃ m, (binOp op t (.string p) (.string q)).run P w = .ok m w ∧ ∀ c, RV c r m := by
  unfold bin at e
  simp only [real, Ora.sFits, Ora.sAdd, Ora.sCmp] at e
  cases op <;> simp only at e <;> (repeat' split at e) <;> first
    | (cases e; done)
    | (rename_i hk; cases e; refine ⟨_, ?_, fun c => by simp only [RV, RD]; rfl⟩; have hk' := of_decide_eq_true hk; simp only [binOp, Op.stringOp]; rw [if_neg (by omega)]; rfl)
    | (cases e; refine ⟨_, ?_, fun c => by simp only [RV, RD, sCmpI]; rfl⟩; simp [binOp, Op.stringOp]; done)

theorem equal_bool {t : TypeId} (ht : P.underlying t = some .bool) (p q : Bool) : (Op.equal t (.bool p) (.bool q)).run P w = .ok (p == q) w := by
  have : ∀ d, (Op.equalIn (d + 1) t (.bool p) (.bool q)).run P w = .ok (p == q) w := by
    intro d
    rw [Op.equalIn]
    simp [run_underlying ht]
  exact this 9999

theorem bool_run {op : BinOp} {t : TypeId} {p q : Bool} {r : AV} (ht : P.underlying t = some .bool) (e : bin (real call loop) op (.d (.bool p)) (.d (.bool q)) = some r) :
    ∃ m, (binOp op t (.bool p) (.bool q)).run P w = .ok m w ∧ ∀ c, RV c r m := by
  unfold bin at e
  cases op <;> simp only at e <;> first
    | (cases e; done)
    | (cases e; refine ⟨_, ?_, fun c => by simp only [RV, RD]; rfl⟩; simp only [binOp]; rw [Sem.run_bind, equal_bool ht]; rfl)

theorem goes_bin (np : Nat) (h : RS s a w L Z) {o : Oper} {op : BinOp} {t t' : TypeId} {x y : Operand} {x' y' : VX} (ho : o.op = .binOp op t x y t') (hx : okX x x' = true) (hy : okX y y' = true)
    {u v r : AV} (hb : ∀ p, u = .d (.bool p) → P.underlying t = some .bool)
    (e2 : ev s.env x' = some u) (e3 : ev s.env y' = some v) (e : bin (real call loop) op u v = some r) : Goes P np o s a w L Z r s := by
  have h1 := ev_sound h hx e2
  have h2 := ev_sound h hy e3
  have hrun : ∀ {m : Value}, (do eqGuard op t x y (a.eval x) (a.eval y); binOp op t (a.eval x) (a.eval y) : Sem Value).run P w = .ok m w → (execOp a.eval o).run P w = .ok (.value m) w := by
    intro m hm
    refine run_v (m := do eqGuard op t x y (a.eval x) (a.eval y); binOp op t (a.eval x) (a.eval y)) ?_ hm
    unfold execOp; rw [ho]
  have e' := e
  unfold bin at e
  split at e
  · rename_i k p k' q
    simp only [RV, RD, List.cons.injEq, and_true] at h1 h2
    rw [h1, h2] at hrun
    have hg : (eqGuard op t x y (.int k p) (.int k' q)).run P w = .ok () w := by unfold eqGuard; cases op <;> rfl
    obtain ⟨m, hm, hr⟩ := int_run (P := P) (w := w) (t := t) e'
    exact Goes.pure h (hrun (by simp [hg, hm])) (hr _)
  · rename_i p q
    simp only [RV, RD, List.cons.injEq, and_true] at h1 h2
    rw [h1, h2] at hrun
    have hg : (eqGuard op t x y (.string p) (.string q)).run P w = .ok () w := by unfold eqGuard; cases op <;> rfl
    obtain ⟨m, hm, hr⟩ := str_run (P := P) (w := w) (t := t) e'
    exact Goes.pure h (hrun (by simp [hg, hm])) (hr _)
  · rename_i p q
    simp only [RV, RD, List.cons.injEq, and_true] at h1 h2
    rw [h1, h2] at hrun
    have hg : (eqGuard op t x y (.bool p) (.bool q)).run P w = .ok () w := by unfold eqGuard; cases op <;> rfl
    obtain ⟨m, hm, hr⟩ := bool_run (P := P) (w := w) (t := t) (hb p rfl) e'
    exact Goes.pure h (hrun (by simp [hg, hm])) (hr _)
  · cases e

theorem equal_nil {t e : TypeId} (ht : P.underlying t = some (.pointer e)) (p : Option Addr) : (Op.equal t (.pointer p) (.pointer none)).run P w = .ok p.isNone w := by
  have : ∀ d, (Op.equalIn (d + 1) t (.pointer p) (.pointer none)).run P w = .ok p.isNone w := by
    intro d
    rw [Op.equalIn]
    cases p <;> simp [run_underlying ht]
  exact this 9999

theorem goes_eqNil (np : Nat) (h : RS s a w L Z) {o : Oper} {op : BinOp} {t t' e : TypeId} {x : Operand} {x' : VX} {ne : Bool} (ho : o.op = .binOp op t x (.const (.pointer none)) t') (hop : op = match ne with | true => .neq | false => .eql) (hx : okX x x' = true) (hu : P.underlying t = some (.pointer e))
    {u : AV} {b : Bool} (e2 : ev s.env x' = some u) (hb : (u = .nilp ∧ b = !ne) ∨ ((∃ p, ∀ v, RV (cxOf w Z L s.sto) u v → ∃ q, v = .pointer (some q) ∧ p = ()) ∧ b = ne)) : Goes P np o s a w L Z (.d (.bool b)) s := by
  have h1 := ev_sound h hx e2
  have hrun : ∀ (p : Option Addr), a.eval x = .pointer p → (b = match ne with | true => !p.isNone | false => p.isNone) → Goes P np o s a w L Z (.d (.bool b)) s := by
    intro p hp hbb
    refine Goes.pure h (u := .bool b) ?_ (by simp only [RV, RD])
    refine run_v (m := do eqGuard op t x (.const (.pointer none)) (a.eval x) (.pointer none); binOp op t (a.eval x) (.pointer none)) (by unfold execOp; rw [ho]; rfl) ?_
    rw [hp]
    have hg : (eqGuard op t x (.const (.pointer none)) (.pointer p) (.pointer none)).run P w = .ok () w := by
      unfold eqGuard; subst hop; cases ne <;> rfl
    have hm : (binOp op t (.pointer p) (.pointer none)).run P w = .ok (.bool b) w := by
      subst hop
      cases ne
      · simp only at hbb
        simp only [binOp]
        rw [Sem.run_bind, equal_nil hu, hbb]
        rfl
      · simp only at hbb
        simp only [binOp]
        rw [Sem.run_bind, equal_nil hu, hbb]
        rfl
    simp [hg, hm]
  rcases hb with ⟨rfl, hb⟩ | ⟨⟨p, hp⟩, hb⟩
  · simp only [RV] at h1
    exact hrun none h1 (by subst hb; cases ne <;> rfl)
  · obtain ⟨q, hq, _⟩ := hp _ h1
    exact hrun (some q) hq (by subst hb; cases b <;> rfl)

end
end Go.Vi
