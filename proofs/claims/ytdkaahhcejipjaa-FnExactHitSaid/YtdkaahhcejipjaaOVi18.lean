/- What the interpreter's form of an operation must be. -/
import Derived.Test.YtdkaahhcejipjaaOVi17
set_option linter.unusedVariables false
set_option linter.unusedSimpArgs false
set_option linter.unnecessarySimpa false
set_option linter.unusedSectionVars false
namespace Go.Vi
open Go Go.RowKit

def okV (P : Program) : Op → VOp → Bool
  | .move x, .move y => okX x y
  | .assign x, .move y => okX x y
  | .pick c x y, .pick c' x' y' => okX c c' && okX x x' && okX y y'
  | .alloc t, .alloc cs => match P.info? t with
    | some i => match i.zero with
      | some z => valOkL z.cells.toList cs
      | none => false
    | none => false
  | .box _ x, .box y => okX x y
  | .build t ps, .build zero qs => match P.underlying t, P.info? t with
    | some (.struct fields), some i => match i.zero, fields.toList.mapM (fun f => (P.info? f.type).map fun i => (f.offset, i.size)) with
      | some z, some places => okParts places ps.toList qs && valOkL z.cells.toList zero
      | _, _ => false
    | _, _ => false
  | .buildSlice t len ps, .buildSlice sz _ zero len' qs => match P.underlying t with
    | some (.slice e) => match P.info? e with
      | some i => match i.zero with
        | some z => sz.1 == e && sz.2 == i.size && len == len' && okElems ps.toList qs && z.cells.size == i.size && decide (0 < i.size) && valOkL z.cells.toList zero && decide (len * i.size ≤ 2 ^ 24)
        | none => false
      | none => false
    | _ => false
  | .buildSlice t len ps, .buildRow sz _ zero len' qs => match P.underlying t with
    | some (.slice e) => match P.info? e with
      | some i => match i.zero with
        | some z => sz.1 == e && sz.2 == i.size && len == len' && okElems ps.toList qs && z.cells.size == i.size && decide (0 < i.size) && valOkL z.cells.toList zero && decide (len * i.size ≤ 2 ^ 24)
        | none => false
      | none => false
    | _ => false
  | .buildSlice t len ps, .buildO sz x' => match P.underlying t, ps.toList with
    | some (.slice e), [(0, x)] => match P.info? e with
      | some i => match i.zero with
        | some z => sz.1 == e && sz.2 == i.size && len == 1 && okX x x' && z.cells.size == i.size && decide (0 < i.size) && decide (i.size ≤ 2 ^ 24)
        | none => false
      | none => false
    | _, _ => false
  | .call c, .appendO sz bytes x' y' => match c.callee, c.args.toList, c.argTypes.toList with
    | .builtin .append, [x, y], [t, t'] => t == t' && okX x x' && okX y y' && (match P.underlying t with
      | some (.slice e) => (match P.info? e with
        | some i => (match i.zero with
          | some z => sz.1 == e && sz.2 == i.size && bytes == i.bytes && z.cells.size == i.size
          | none => false)
        | none => false)
      | _ => false)
    | _, _, _ => false
  | .load t x, .lend y => match P.info? t, P.underlying t with
    | some i, some d => okX x y && i.size == 1 && aggD d == false
    | _, _ => false
  | .load t x, .load agg n y => match P.info? t, P.underlying t with
    | some i, some d => okX x y && i.size == n && agg == aggD d
    | _, _ => false
  | .store t x y, .store n x' y' => match P.info? t with
    | some i => i.size == n && okX x x' && okX y y'
    | none => false
  | .store t x y, .storeP n x' y' => match P.info? t with
    | some i => i.size == n && okX x x' && okX y y'
    | none => false
  | .binOp op t x y _, .bin isB op' x' y' => decide (op = op') && okX x x' && okX y y' && (!isB || (match P.underlying t with | some .bool => true | _ => false))
  | .binOp op t x (.const (.pointer none)) _, .eqNil ne x' => decide (op = match ne with | true => .neq | false => .eql) && okX x x' && (match P.underlying t with | some (.pointer _) => true | _ => false)
  | .unOp .neg _ x, .neg y => okX x y
  | .unOp .not _ x, .not y => okX x y
  | .convert t t' x, .conv c y => okX x y && match c with
    | .int k => (match P.underlying t with | some (.int _) => true | _ => false) && (match P.underlying t' with | some (.int k') => k == k' | _ => false)
    | .str => (match P.underlying t with | some .string => true | _ => false) && (match P.underlying t' with | some .string => true | _ => false)
    | .bytesToStr => (match P.underlying t with | some (.slice e) => (match P.underlying e with | some (.int .u8) => true | _ => false) | _ => false) && (match P.underlying t' with | some .string => true | _ => false)
  | .makeFunc (.func f) first xs, .mkfn g ys => first.toList.isEmpty && f == g && okXL xs.toList ys
  | .makeSlice t x y, .makeSlice sz bytes _ zero x' y' => match P.underlying t with
    | some (.slice e) => match P.info? e with
      | some i => match i.zero with
        | some z => sz.1 == e && sz.2 == i.size && bytes == i.bytes && okX x x' && okX y y' && z.cells.size == i.size && decide (0 < i.size) && valOkL z.cells.toList zero
        | none => false
      | none => false
    | _ => false
  | .slice t x lo hi mx, .slice isStr sz x' lo' hi' mx' => okX x x' && okXO lo lo' && okXO hi hi' && okXO mx mx' && (match isStr with
    | true => mx.isNone && (match P.underlying t with | some .string => true | _ => false)
    | false => match P.underlying t with
      | some (.slice e) => (match P.info? e with | some i => sz.1 == e && sz.2 == i.size | none => false)
      | _ => false)
  | .fieldAddr t x f, .fieldAddr off y => match P.underlying t with
    | some (.struct fs) => match fs[f]? with
      | some fd => match P.info? fd.type with
        | some i => i.size != 0 && fd.offset == off && okX x y
        | none => false
      | none => false
    | _ => false
  | .field t x f, .field agg off n y => match P.underlying t with
    | some (.struct fs) => match fs[f]? with
      | some fd => match P.info? fd.type, P.underlying fd.type with
        | some i, some d => fd.offset == off && i.size == n && agg == aggD d && okX x y
        | _, _ => false
      | none => false
    | _ => false
  | .indexAddr t x i, .indexAddr sz y j => match P.underlying t with
    | some (.slice e) => (match P.info? e with | some n => sz.1 == e && sz.2 == n.size && okX x y && okX i j | none => false)
    | _ => false
  | .index t x i, .index y j => (match P.underlying t with | some .string => true | _ => false) && okX x y && okX i j
  | .extract x i, .extract y j => okX x y && i == j
  | .call c, .len isS y => match c.callee, c.args.toList, c.argTypes.toList with
    | .builtin .len, [x], [t] => okX x y && (match isS with
      | true => (match P.underlying t with | some .string => true | _ => false)
      | false => (match P.underlying t with | some (.slice _) => true | _ => false))
    | _, _, _ => false
  | .call c, .append sz bytes x' y' => match c.callee, c.args.toList, c.argTypes.toList with
    | .builtin .append, [x, y], [t, t'] => t == t' && okX x x' && okX y y' && (match P.underlying t with
      | some (.slice e) => (match P.info? e with
        | some i => (match i.zero with
          | some z => sz.1 == e && sz.2 == i.size && bytes == i.bytes && z.cells.size == i.size
          | none => false)
        | none => false)
      | _ => false)
    | _, _, _ => false
  | .call c, .call g _ _ ys => match c.callee with
    | .value (.func f) => f == g && okXL c.args.toList ys
    | _ => false
  | .call c, .callv fx _ _ ys => match c.callee with
    | .value x => okX x fx && okXL c.args.toList ys
    | _ => false
  | _, _ => false

section
variable {P : Program} {call : FuncId → List AV → List (Option Obj) → Option CRes} {loop : Nat → St → Option (Out × St)}
variable {s : St} {a : Act} {w : World} {L : Loc} {Z : Nat → Prop}

theorem run_callFunc {f : FuncId} (h : callable P f = true) (args : Array Value) : (callFunc f args).run P w = .ok (.enter f args) w := by
  unfold callable at h
  split at h
  · rename_i fn hf
    simp only [Bool.and_eq_true, Bool.not_eq_true'] at h
    obtain ⟨h1, h2⟩ := h
    have h3 : fn.body.isNone = false := by cases hb : fn.body <;> simp [hb] at h1 ⊢
    unfold callFunc
    have h4 : ¬ fn.name = "runtime.NumGoroutine" := by simpa using h2
    have h5 : ¬ fn.body = none := by intro e; rw [e] at h3; cases h3
    simp [hf, h4, h5]
  · cases h

theorem goes_enter {np : Nat} {o : Oper} {f : FuncId} {m : CMode} {raw : Bool} {as : List AV} {vs : List Value} {r : AV} {s' : St} (hco : CallOk P call) (h : RS s a w L Z) (hv : RVs (cxOf w Z L s.sto) as vs) (ht : ∀ t, o.dst = some t → t < np)
    (e : doCall (real call loop) f m raw as o.dst s = some (r, s')) (hrun : callable P f = true → (execOp a.eval o).run P w = .ok (.enter f vs.toArray) w) : Goes P np o s a w L Z r s' := by
  intro K Q hk
  have h0 := call_sound (np := np) hco h hv ht e
  unfold Oper.wp
  rw [hrun (h0 (fun _ _ => True) (fun _ _ _ _ _ _ _ => trivial)).1]
  rw [Oper.upon_enter]
  exact (h0 _ fun v w' L' Z' k1 k2 k3 => hk v w' L' Z' k1 k2 k3).2

theorem goes_call {np : Nat} {o : Oper} {c : Call} {f : FuncId} {m : CMode} {raw : Bool} {as : List AV} {ys : List VX} {r : AV} {s' : St} (hco : CallOk P call) (h : RS s a w L Z) (ho : o.op = .call c) (hc : c.callee = .value (.func f)) (hx : okXL c.args.toList ys = true)
    (e1 : evL s.env ys = some as) (ht : ∀ t, o.dst = some t → t < np) (e : doCall (real call loop) f m raw as o.dst s = some (r, s')) : Goes P np o s a w L Z r s' := by
  refine goes_enter hco h (evL_sound h hx e1) ht e fun hcl => ?_
  unfold execOp
  rw [ho]
  simp [resolve, hc, Deferred.ofValue, invoke, Act.eval, run_callFunc hcl, ← Array.toList_map]

theorem goes_callv {np : Nat} {o : Oper} {c : Call} {x : Operand} {fx : VX} {f : FuncId} {cap : List AV} {m : CMode} {raw : Bool} {as : List AV} {ys : List VX} {r : AV} {s' : St} (hco : CallOk P call) (h : RS s a w L Z) (ho : o.op = .call c) (hc : c.callee = .value x) (hxf : okX x fx = true) (hx : okXL c.args.toList ys = true)
    (e0 : ev s.env fx = some (.fn f cap)) (e1 : evL s.env ys = some as) (ht : ∀ t, o.dst = some t → t < np) (e : doCall (real call loop) f m raw (as ++ cap) o.dst s = some (r, s')) : Goes P np o s a w L Z r s' := by
  have h1 := ev_sound h hxf e0
  simp only [RV] at h1
  obtain ⟨vs, h1, h2⟩ := h1
  have h3 := evL_sound h hx e1
  have h4 : RVs (cxOf w Z L s.sto) (as ++ cap) (c.args.toList.map a.eval ++ vs) := by
    rw [RVs_iff] at h2 h3 ⊢
    refine ⟨by simp [h2.1, h3.1], fun i y v hy hv => ?_⟩
    rw [List.getElem?_append] at hy hv
    rw [← h3.1] at hv
    split at hy
    · rename_i hlt; rw [if_pos hlt] at hv; exact h3.2 i y v hy hv
    · rename_i hlt; rw [if_neg hlt] at hv; exact h2.2 _ y v hy hv
  refine goes_enter hco h h4 ht e fun hcl => ?_
  unfold execOp
  rw [ho]
  have : c.args.map a.eval ++ vs.toArray = (c.args.toList.map a.eval ++ vs).toArray := by
    apply Array.ext'; simp
  simp [resolve, hc, h1, Deferred.ofValue, invoke, run_callFunc hcl]

end
end Go.Vi
