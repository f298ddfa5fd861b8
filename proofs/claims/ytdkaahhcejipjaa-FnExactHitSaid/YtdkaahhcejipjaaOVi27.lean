/- What all calls and loops come to. -/
import Derived.Test.YtdkaahhcejipjaaOVi26
set_option linter.unusedVariables false
set_option linter.unusedSimpArgs false
set_option linter.unnecessarySimpa false
set_option linter.unusedSectionVars false
namespace Go.Vi
open Go Go.RowKit

mutual
/-- A call comes to this. -/
inductive CallR (F : FuncId → Option (VF × Bool)) (T : Nat → Option VL) : FuncId → List AV → List (Option Obj) → CRes → Prop
  | mk (call : FuncId → List AV → List (Option Obj) → Option CRes) (loop : Nat → St → Option (Out × St)) (hc : ∀ f as cs c, call f as cs = some c → CallR F T f as cs c) (hl : ∀ k s r, loop k s = some r → LoopR F T k s r)
      (f : FuncId) (as : List AV) (cs : List (Option Obj)) (c : CRes) (e : callF (real call loop) F f as cs = some c) : CallR F T f as cs c
/-- A loop comes to this. -/
inductive LoopR (F : FuncId → Option (VF × Bool)) (T : Nat → Option VL) : Nat → St → Out × St → Prop
  | mk (call : FuncId → List AV → List (Option Obj) → Option CRes) (loop : Nat → St → Option (Out × St)) (hc : ∀ f as cs c, call f as cs = some c → CallR F T f as cs c) (hl : ∀ k s r, loop k s = some r → LoopR F T k s r)
      (k : Nat) (s : St) (r : Out × St) (e : loopF (real call loop) T k s = some r) : LoopR F T k s r
end

def CallAt (P : Program) (f : FuncId) (as : List AV) (cs : List (Option Obj)) (c : CRes) : Prop :=
  callable P f = true ∧ ∀ (vs : Array Value) (w : World) (L : Loc) (Z : Nat → Prop), RS ⟨as, [[], cs]⟩ ⟨vs, []⟩ w L Z →
    ∀ Q : Ending → World → Prop, (∀ v w' L' Z', RS ⟨[c.ret], [c.extra, c.pars]⟩ ⟨#[v], []⟩ w' L' Z' → Tr 1 [[], cs] [c.extra, c.pars] w w' L L' Z Z' → Q (.returned v) w') → Calls P f vs w Q
def LoopAt (P : Program) (T : Nat → Option VL) (key : Nat) (s : St) (r : Out × St) : Prop :=
  ∀ l, T key = some l → ∀ (np : Nat) (c : Code), okC P T np c l.body = true → ∀ a w L Z, RS s a w L Z → ∀ Q : Exit → Act → World → Prop,
    (∀ a' w' L' Z', RS r.2 a' w' L' Z' → Tr np s.sto r.2.sto w w' L L' Z Z' → Q (ofOut r.1) a' w') → c.wp P (Exit.then (LoopW P c Q) Q) a w

section
variable {P : Program} {F : FuncId → Option (VF × Bool)} {T : Nat → Option VL}

mutual
theorem CallR.ok (hmix : P.follows .mixedOrders = true) (hF : ∀ f vf raw, F f = some (vf, raw) → okF P T f vf = true) : ∀ {f as cs c}, CallR F T f as cs c → CallAt P f as cs c
  | _, _, _, _, .mk call loop hc hl f as cs c e =>
    callF_ok hmix (fun f as cs c h => CallR.ok hmix hF (hc f as cs c h)) (fun k s out s' h => LoopR.ok hmix hF (hl k s (out, s') h)) hF f as cs c e
theorem LoopR.ok (hmix : P.follows .mixedOrders = true) (hF : ∀ f vf raw, F f = some (vf, raw) → okF P T f vf = true) : ∀ {k s r}, LoopR F T k s r → LoopAt P T k s r
  | _, _, _, .mk call loop hc hl k s (out, s') e =>
    loopF_ok hmix (fun f as cs c h => CallR.ok hmix hF (hc f as cs c h)) (fun k s out s' h => LoopR.ok hmix hF (hl k s (out, s') h)) k s out s' e
end

def orC (c1 c2 : FuncId → List AV → List (Option Obj) → Option CRes) : FuncId → List AV → List (Option Obj) → Option CRes := fun f as cs => match c1 f as cs with
  | some c => some c
  | none => c2 f as cs
def orL (l1 l2 : Nat → St → Option (Out × St)) : Nat → St → Option (Out × St) := fun k s => match l1 k s with
  | some r => some r
  | none => l2 k s

mutual
theorem CallR.det : ∀ {f as cs c}, CallR F T f as cs c → ∀ c', CallR F T f as cs c' → c = c'
  | _, _, _, _, .mk call loop hc hl f as cs c e, c', .mk call' loop' hc' hl' _ _ _ _ e' => by
    have m1 : ∀ f as cs c, call f as cs = some c → orC call call' f as cs = some c := fun f as cs c h => by simp only [orC, h]
    have m2 : ∀ k s r, loop k s = some r → orL loop loop' k s = some r := fun k s r h => by simp only [orL, h]
    have n1 : ∀ f as cs c, call' f as cs = some c → orC call call' f as cs = some c := fun f as cs c h => by
      unfold orC
      split
      · rename_i c2 h2; rw [CallR.det (hc f as cs c2 h2) c (hc' f as cs c h)]
      · exact h
    have n2 : ∀ k s r, loop' k s = some r → orL loop loop' k s = some r := fun k s r h => by
      unfold orL
      split
      · rename_i r2 h2; rw [LoopR.det (hl k s r2 h2) r (hl' k s r h)]
      · exact h
    have a1 := callF_mono m1 m2 e
    have a2 := callF_mono n1 n2 e'
    rw [a1] at a2
    injection a2
theorem LoopR.det : ∀ {k s r}, LoopR F T k s r → ∀ r', LoopR F T k s r' → r = r'
  | _, _, _, .mk call loop hc hl k s r e, r', .mk call' loop' hc' hl' _ _ _ e' => by
    have m1 : ∀ f as cs c, call f as cs = some c → orC call call' f as cs = some c := fun f as cs c h => by simp only [orC, h]
    have m2 : ∀ k s r, loop k s = some r → orL loop loop' k s = some r := fun k s r h => by simp only [orL, h]
    have n1 : ∀ f as cs c, call' f as cs = some c → orC call call' f as cs = some c := fun f as cs c h => by
      unfold orC
      split
      · rename_i c2 h2; rw [CallR.det (hc f as cs c2 h2) c (hc' f as cs c h)]
      · exact h
    have n2 : ∀ k s r, loop' k s = some r → orL loop loop' k s = some r := fun k s r h => by
      unfold orL
      split
      · rename_i r2 h2; rw [LoopR.det (hl k s r2 h2) r (hl' k s r h)]
      · exact h
    have a1 := loopF_mono m1 m2 e
    have a2 := loopF_mono n1 n2 e'
    rw [a1] at a2
    injection a2
end

open Classical in
noncomputable def callD (F : FuncId → Option (VF × Bool)) (T : Nat → Option VL) (f : FuncId) (as : List AV) (cs : List (Option Obj)) : Option CRes := if h : ∃ c, CallR F T f as cs c then some h.choose else none
open Classical in
noncomputable def loopD (F : FuncId → Option (VF × Bool)) (T : Nat → Option VL) (k : Nat) (s : St) : Option (Out × St) := if h : ∃ r, LoopR F T k s r then some h.choose else none

theorem callD_iff {f as cs c} : callD F T f as cs = some c ↔ CallR F T f as cs c := by
  unfold callD
  constructor
  · intro h
    split at h
    · rename_i hh; injection h with h; rw [← h]; exact hh.choose_spec
    · cases h
  · intro h
    have hh : ∃ c, CallR F T f as cs c := ⟨c, h⟩
    rw [dif_pos hh, CallR.det hh.choose_spec c h]
theorem loopD_iff {k s r} : loopD F T k s = some r ↔ LoopR F T k s r := by
  unfold loopD
  constructor
  · intro h
    split at h
    · rename_i hh; injection h with h; rw [← h]; exact hh.choose_spec
    · cases h
  · intro h
    have hh : ∃ r, LoopR F T k s r := ⟨r, h⟩
    rw [dif_pos hh, LoopR.det hh.choose_spec r h]

/-- The interpreter of a whole program. -/
def IsDen (F : FuncId → Option (VF × Bool)) (T : Nat → Option VL) (o : Ora) : Prop := o = real (callD F T) (loopD F T)

variable {o : Ora} (ho : IsDen F T o)
include ho
theorem IsDen.callR {f as cs c} (e : callF o F f as cs = some c) : o.call f as cs = some c := by
  rw [ho] at e ⊢
  exact callD_iff.2 (.mk _ _ (fun _ _ _ _ h => callD_iff.1 h) (fun _ _ _ h => loopD_iff.1 h) f as cs c e)
theorem IsDen.loopR {k s r} (e : loopF o T k s = some r) : o.loop k s = some r := by
  rw [ho] at e ⊢
  exact loopD_iff.2 (.mk _ _ (fun _ _ _ _ h => callD_iff.1 h) (fun _ _ _ h => loopD_iff.1 h) k s r e)
theorem IsDen.ok (hmix : P.follows .mixedOrders = true) (hF : ∀ f vf raw, F f = some (vf, raw) → okF P T f vf = true) {f as cs c} (e : o.call f as cs = some c) : CallAt P f as cs c := by
  rw [ho] at e
  exact CallR.ok hmix hF (callD_iff.1 e)
theorem IsDen.ar : o.ar = arI := by rw [ho]; rfl
theorem IsDen.wrap : o.wrap = fun k n => k.wrap n := by rw [ho]; rfl
theorem IsDen.plus (a b : Int) : o.plus a b = a + b := by rw [ho]; rfl
theorem IsDen.minus (a b : Int) : o.minus a b = a - b := by rw [ho]; rfl
theorem IsDen.cmp (op : BinOp) (a b : Int) : o.cmp op a b = cmpI op a b := by rw [ho]; rfl
theorem IsDen.isZero (a : Int) : o.isZero a = decide (a = 0) := by rw [ho]; rfl
theorem IsDen.sCmp (op : BinOp) (a b : ByteArray) : o.sCmp op a b = sCmpI op a b := by rw [ho]; rfl
theorem IsDen.sAdd (a b : ByteArray) : o.sAdd a b = a ++ b := by rw [ho]; rfl
theorem IsDen.sLen (a : ByteArray) : o.sLen a = a.size := by rw [ho]; rfl
theorem IsDen.len (xs : List D) : o.len xs = xs.length := by rw [ho]; rfl
theorem IsDen.elt (xs : List D) (i : Int) : o.elt xs i = eltI xs i := by rw [ho]; rfl
theorem IsDen.sub (xs : List D) (a n : Int) : o.sub xs a n = subI xs a n := by rw [ho]; rfl
theorem IsDen.app (xs ys : List D) : o.app xs ys = xs ++ ys := by rw [ho]; rfl
theorem IsDen.rep (n : Int) (x : D) : o.rep n x = List.replicate n.toNat x := by rw [ho]; rfl
theorem IsDen.fitsN (b : Nat) (n : Int) : o.fitsN b n = decide (0 ≤ n ∧ n * b ≤ 140737488355328 ∧ n ≤ 9223372036854775807) := by rw [ho]; rfl
theorem IsDen.set (xs : List D) (i : Int) (x : D) : o.set xs i x = xs.set i.toNat x := by rw [ho]; rfl
end
end Go.Vi
