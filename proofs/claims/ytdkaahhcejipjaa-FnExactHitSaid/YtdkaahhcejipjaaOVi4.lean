/- The real numbers and texts; slices' elements; what is handed on as data; reading and writing. -/
import Derived.Test.YtdkaahhcejipjaaOVi3
import Derived.Laws.AppendOwn
import Derived.Laws.Cells
set_option linter.unusedVariables false
set_option linter.unusedSimpArgs false
set_option linter.unnecessarySimpa false
set_option linter.unusedSectionVars false
namespace Go.Vi
open Go Go.RowKit

def arI (op : BinOp) (k : IntKind) (a b : Int) : Int :=
  match op with
  | .add => k.wrap (a + b)
  | .sub => k.wrap (a - b)
  | .mul => k.wrap (a * b)
  | .quo => k.wrap (a.tdiv b)
  | .rem => a.tmod b
  | .and => k.wrap (BitVec.ofInt k.bits a &&& BitVec.ofInt k.bits b).toNat
  | .or => k.wrap (BitVec.ofInt k.bits a ||| BitVec.ofInt k.bits b).toNat
  | .xor => k.wrap (BitVec.ofInt k.bits a ^^^ BitVec.ofInt k.bits b).toNat
  | .shl => k.wrap (a * 2 ^ (min b.toNat k.bits))
  | .shr => a.fdiv (2 ^ (min b.toNat k.bits))
  | _ => 0
def cmpI (op : BinOp) (a b : Int) : Bool :=
  match op with
  | .eql => a == b
  | .neq => a != b
  | .lss => decide (a < b)
  | .leq => decide (a ≤ b)
  | .gtr => decide (a > b)
  | .geq => decide (a ≥ b)
  | _ => false
def sCmpI (op : BinOp) (x y : ByteArray) : Bool :=
  match op with
  | .eql => x.toList == y.toList
  | .neq => !(x.toList == y.toList)
  | .lss => Op.bytesLess x.toList y.toList
  | .leq => Op.bytesLess x.toList y.toList || x.toList == y.toList
  | .gtr => !(Op.bytesLess x.toList y.toList || x.toList == y.toList)
  | .geq => !(Op.bytesLess x.toList y.toList)
  | _ => false
def ofBytesI : List D → Option (List UInt8)
  | [] => some []
  | .int .u8 n :: l => match ofBytesI l with
    | some bs => some (UInt8.ofNat n.toNat :: bs)
    | none => none
  | _ => none
def subI (xs : List D) (a n : Int) : Option (List D) := if 0 ≤ a ∧ 0 ≤ n ∧ a + n ≤ xs.length then some ((xs.drop a.toNat).take n.toNat) else none
def eltI (xs : List D) (i : Int) : Option D := if 0 ≤ i then xs[i.toNat]? else none

mutual
/-- What is owned, taken as data that no longer changes. -/
def frozeD : D → D
  | .own _ xs => .lst (frozeL xs)
  | .agg cs => .agg (frozeL cs)
  | x => x
def frozeL : List D → List D
  | [] => []
  | x :: xs => frozeD x :: frozeL xs
end
mutual
/-- Nothing of it lies in memory that somebody else may hold. -/
def closedD : D → Bool
  | .lst xs => xs.isEmpty
  | .agg cs => closedL cs
  | .own _ xs => closedL xs
  | _ => true
def closedL : List D → Bool
  | [] => true
  | x :: xs => closedD x && closedL xs
end
theorem frozeL_len : ∀ xs : List D, (frozeL xs).length = xs.length
  | [] => rfl
  | x :: xs => by simp [frozeL, frozeL_len xs]

def real (call : FuncId → List AV → List (Option Obj) → Option CRes) (loop : Nat → St → Option (Out × St)) : Ora :=
  .mk call loop arI (fun k n => k.wrap n) (fun a b => a + b) (fun a b => a - b) cmpI (fun a => decide (a = 0)) sCmpI (fun a b => a ++ b) (fun a b => decide (((a.size + b.size : Nat) : Int) ≤ IntKind.i64.max))
    (fun s => s.size) (fun s i => if 0 ≤ i then (s[i.toNat]?).map fun b => (b.toNat : Int) else none)
    (fun s l h => if 0 ≤ l ∧ l ≤ h ∧ h ≤ s.size then some (s.extract l.toNat h.toNat) else none)
    (fun s => s.data.toList.map fun b => .int .u8 b.toNat) (fun l => (ofBytesI l).map fun bs => ⟨bs.toArray⟩)
    (fun xs => xs.length) eltI subI (fun xs ys => xs ++ ys) (fun xs i x => xs.set i.toNat x) (fun n x => List.replicate n.toNat x)
    (fun z b xs => decide (xs.length * b ≤ 140737488355328 ∧ xs.length ≤ maxLen) && xs.all fun x => x.cells.length == z) (fun b n => decide (0 ≤ n ∧ n * b ≤ 140737488355328 ∧ n ≤ 9223372036854775807))
    (fun xs ys => ys.take xs.length ++ xs.drop ys.length) frozeL closedL (fun xs => xs.all fun x => match x with | .agg cs => cs.all plainC | x => plainC x)

variable {P : Program} {call : FuncId → List AV → List (Option Obj) → Option CRes} {loop : Nat → St → Option (Out × St)}

theorem Rows_drop {w : World} {Z : Nat → Prop} {b sz : Nat} : ∀ {xs : List D} {o : Nat} (k : Nat), Rows w Z xs b o sz → Rows w Z (xs.drop k) b (o + k * sz) sz := by
  intro xs o k h
  rw [Rows_iff] at h ⊢
  intro i x hx
  rw [List.getElem?_drop] at hx
  obtain ⟨cs, h1, h2, h3⟩ := h (k + i) x hx
  refine ⟨cs, h1, h2, fun j v hj => ?_⟩
  rw [show o + k * sz + i * sz + j = o + (k + i) * sz + j by rw [Nat.add_mul]; omega]
  exact h3 j v hj

theorem Rows_take {w : World} {Z : Nat → Prop} {b sz : Nat} : ∀ {xs : List D} {o : Nat} (k : Nat), Rows w Z xs b o sz → Rows w Z (xs.take k) b o sz := by
  intro xs o k h
  rw [Rows_iff] at h ⊢
  intro i x hx
  rw [List.getElem?_take] at hx
  split at hx
  · exact h i x hx
  · cases hx

/-- The elements of a slice, as memory holds them. -/
theorem content_sound {s : Sto} {w : World} {L : Loc} {Z : Nat → Prop} {x : AV} {v : Value} {xs : List D}
    (hobj : ∀ r ob, s.get r = some ob → RO (cxOf w Z L s) r ob) (hv : RV (cxOf w Z L s) x v) (h : content (real call loop) s x = some xs) :
    ∃ A cap, v = .slice A xs.length cap ∧ xs.length ≤ cap ∧ (xs = [] ∨ ∃ b o sz, A = some ⟨b, o, none⟩ ∧ Rows w Z xs b o sz ∧ (Z b ∨ ∃ r z g u ob, x = .arr r z g u ∧ s.get r = some ob ∧ L r = some b)) := by
  cases x with
  | d y =>
    cases y with
    | lst ys =>
      simp only [content] at h
      injection h with h
      subst h
      simp only [RV, RD] at hv
      obtain ⟨a, c, h1, h2, h3⟩ := hv
      injection h1 with h1
      refine ⟨a, c, h1, h2, h3.imp id ?_⟩
      rintro ⟨b, o, sz, h4, h5, h6⟩
      exact ⟨b, o, sz, h4, h6, .inl h5⟩
    | _ => simp [content] at h
  | emp =>
    simp only [content] at h
    injection h with h
    subst h
    simp only [RV] at hv
    obtain ⟨a, h1⟩ := hv
    exact ⟨a, 0, h1, Nat.le_refl _, .inl rfl⟩
  | arr r sz g u =>
    simp only [RV] at hv
    obtain ⟨a, n, cap, ys, h1, ⟨h2, _⟩, _, h4, h5, h6, h7, h8⟩ := hv
    have h4' : s.get r = some (.rows sz ys) := by
      have h4'' : (s.get r).bind Obj.rw = some (sz, ys) := h4
      simp only [content] at h
      split at h
      · rename_i s' ys' hg
        rw [hg] at h4'' ⊢
        simp only [Option.bind_some, Obj.rw] at h4''
        injection h4'' with h4''
        injection h4'' with e1 e2
        rw [e1, e2]
      · cases h
    have hro := hobj r _ h4'
    simp only [RO] at hro
    simp only [content, h4'] at h
    cases hL : L r with
    | none =>
      have hy : ys = [] := hro.1 hL
      have hc : cap = 0 := h7 hL
      have hn : n = 0 := by omega
      have hx : xs = [] := by
        cases g with
        | none => simp only at h; injection h with h; rw [← h]; exact hy
        | some p =>
          obtain ⟨x, m⟩ := p
          simp only [real, Ora.sub, subI] at h
          split at h
          · injection h with h; rw [← h, hy]; simp
          · cases h
      subst hx
      exact ⟨a, cap, by rw [h1, hn]; rfl, by simp, .inl rfl⟩
    | some b =>
      obtain ⟨vs, h9, h10, h11⟩ := hro.2 b hL
      have hlv : ∃ r' z g' u' ob, AV.arr r sz g u = .arr r' z g' u' ∧ s.get r' = some ob ∧ L r' = some b := ⟨r, sz, g, u, _, rfl, h4', hL⟩
      cases g with
      | none =>
        simp only at h
        injection h with h
        subst h
        refine ⟨a, cap, by rw [h1, h5 rfl], by rw [← h5 rfl]; exact h2, .inr ?_⟩
        rcases h8 b hL with ⟨_, k2⟩ | ⟨k1, _⟩
        · exact (k2 rfl).elim
        · exact ⟨b, 0, sz.2, by simpa [rngOff] using k1, h11, .inr hlv⟩
      | some p =>
        obtain ⟨x, m⟩ := p
        obtain ⟨k1, k2, k3⟩ := h6 x m rfl
        simp only [real, Ora.sub, subI] at h
        split at h
        case isFalse => cases h
        case isTrue hc =>
          injection h with h
          have hlen : xs.length = n := by
            rw [← h, List.length_take, List.length_drop]
            subst k2
            omega
          refine ⟨a, cap, by rw [h1, hlen], by rw [hlen]; exact h2, ?_⟩
          rcases h8 b hL with ⟨m1, _⟩ | ⟨m1, _⟩
          · left
            apply List.eq_nil_of_length_eq_zero
            omega
          · refine .inr ⟨b, rngOff (some (x, m)) * sz.2, sz.2, m1, ?_, .inr hlv⟩
            rw [← h]
            have := Rows_take m.toNat (Rows_drop x.toNat h11)
            simpa [rngOff] using this
  | _ => simp [content] at h

theorem contentR_sound {s : Sto} {w : World} {L : Loc} {Z : Nat → Prop} {r : Id} {sz : Elt} {g : Option (Int × Int)} {u : Bool} {v : Value} {xs : List D}
    (hobj : ∀ r ob, s.get r = some ob → RO (cxOf w Z L s) r ob) (hv : RV (cxOf w Z L s) (.arr r sz g u) v) (h : contentR (real call loop) s (.arr r sz g u) = some xs) :
    ∃ A cap, v = .slice A xs.length cap := by
  have key : ∀ ys, (s.get r).bind Obj.rw = some (sz, ys) → subR (real call loop) g ys = some xs → ∃ A cap, v = .slice A xs.length cap := by
    intro ys hy hx
    simp only [RV] at hv
    obtain ⟨a, n, cap, zs, h1, _, _, h4, h5, h6, _⟩ := hv
    have h4' : (s.get r).bind Obj.rw = some (sz, zs) := h4
    rw [hy] at h4'
    injection h4' with h4'
    injection h4' with _ e2
    subst e2
    cases g with
    | none =>
      simp only [subR] at hx
      injection hx with hx
      subst hx
      exact ⟨a, cap, by rw [h1, h5 rfl]⟩
    | some p =>
      obtain ⟨x, m⟩ := p
      obtain ⟨k1, k2, k3⟩ := h6 x m rfl
      simp only [subR, real, Ora.sub, subI] at hx
      split at hx
      case isFalse => cases hx
      case isTrue hc =>
        injection hx with hx
        refine ⟨a, cap, ?_⟩
        rw [h1, ← hx, List.length_take, List.length_drop]
        congr 1
        omega
  have hsz : ∀ s' ys, (s.get r).bind Obj.rw = some (s', ys) → s' = sz := by
    intro s' ys hy
    simp only [RV] at hv
    obtain ⟨a, n, cap, zs, h1, _, _, h4, _⟩ := hv
    have h4' : (s.get r).bind Obj.rw = some (sz, zs) := h4
    rw [hy] at h4'
    injection h4' with h4'
    injection h4' with e1 _
  simp only [contentR] at h
  split at h
  · rename_i s' ys hg
    have e : (s.get r).bind Obj.rw = some (s', ys) := by rw [hg]; rfl
    have := hsz _ _ e
    subst this
    exact key ys e h
  · rename_i s' ys _ _ _ _ hg
    have e : (s.get r).bind Obj.rw = some (s', ys) := by rw [hg]; rfl
    have := hsz _ _ e
    subst this
    exact key ys e h
  · obtain ⟨A, cap, h1, _⟩ := content_sound hobj hv h
    exact ⟨A, cap, h1⟩

theorem content_rows {s : Sto} {r : Id} {sz sz' : Elt} {g : Option (Int × Int)} {u : Bool} {xs ys : List D} (h : content (real call loop) s (.arr r sz g u) = some xs) (h4 : (s.get r).bind Obj.rw = some (sz', ys)) : s.get r = some (.rows sz' ys) := by
  simp only [content] at h
  split at h
  · rename_i s' ys' hg
    rw [hg] at h4 ⊢
    simp only [Option.bind_some, Obj.rw] at h4
    injection h4 with h4
    injection h4 with e1 e2
    rw [e1, e2]
  · cases h
theorem rw_of {s : Sto} {r : Id} {sz : Elt} {xs : List D} (h : s.get r = some (.rows sz xs)) : (s.get r).bind Obj.rw = some (sz, xs) := by rw [h]; rfl

mutual
theorem OC_RD {w : World} {Z : Nat → Prop} : ∀ (x : D) (v : Value) (F : List Nat), OC w Z x v F → RD w Z x [v]
  | .own sz xs, v, F, h => by simp only [OC] at h; obtain ⟨a, c, h1, _⟩ := h; simp only [RD]; exact ⟨a, _, c, by rw [h1.1]⟩
  | .agg _, _, _, h => by simp [OC] at h
  | .int k n, v, F, h => by simp only [OC] at h; exact h.1
  | .bool b, v, F, h => by simp only [OC] at h; exact h.1
  | .str s, v, F, h => by simp only [OC] at h; exact h.1
  | .lst xs, v, F, h => by simp only [OC] at h; exact h.1
theorem OCs_RDs {w : World} {Z : Nat → Prop} : ∀ (xs : List D) (vs : List Value) (F : List Nat), OCs w Z xs vs F → RDs w Z xs vs
  | [], vs, F, h => by simp only [OCs] at h; simp only [RDs]; exact h.1
  | d :: ds, vs, F, h => by
    simp only [OCs] at h
    obtain ⟨v, vs', F1, F2, h1, _, h2, h3⟩ := h
    simp only [RDs]
    exact ⟨v, vs', h1, OC_RD d v F1 h2, OCs_RDs ds vs' F2 h3⟩
theorem OE_RD {w : World} {Z : Nat → Prop} : ∀ (x : D) (vs : List Value) (F : List Nat), OE w Z x vs F → RD w Z x vs
  | .agg ds, vs, F, h => by simp only [OE] at h; simp only [RD]; exact OCs_RDs ds vs F h
  | .own sz xs, vs, F, h => by simp only [OE] at h; obtain ⟨v, rfl, h2⟩ := h; exact OC_RD (.own sz xs) v F h2
  | .int k n, vs, F, h => by simp only [OE] at h; exact h.1
  | .bool b, vs, F, h => by simp only [OE] at h; exact h.1
  | .str s, vs, F, h => by simp only [OE] at h; exact h.1
  | .lst xs, vs, F, h => by simp only [OE] at h; exact h.1
end
theorem OEs_Rows {w : World} {Z : Nat → Prop} (n : Nat) : ∀ (xs : List D) (vs : List Value) (F : List Nat), OEs w Z n xs vs F → ∀ (b o : Nat), (∀ j u, vs[j]? = some u → w.cell? ⟨b, o + j, none⟩ = some u) → Rows w Z xs b o n
  | [], vs, F, _, b, o, _ => by simp only [Rows]
  | x :: xs, vs, F, h, b, o, hc => by
    simp only [OEs] at h
    obtain ⟨F1, F2, h1, _, h2, h3⟩ := h
    simp only [Rows]
    refine ⟨⟨vs.take n, by simp [h1], OE_RD x _ F1 h2, fun j u hj => ?_⟩, OEs_Rows n xs _ F2 h3 b (o + n) fun j u hj => ?_⟩
    · rw [List.getElem?_take] at hj
      split at hj
      · exact hc j u hj
      · cases hj
    · rw [List.getElem?_drop] at hj
      rw [show o + n + j = o + (n + j) by omega]
      exact hc (n + j) u hj

theorem OEs_append {w : World} {Z : Nat → Prop} {n : Nat} : ∀ {xs ys : List D} {vs : List Value} {F : List Nat}, OEs w Z n (xs ++ ys) vs F ↔ ∃ A B, F = A ++ B ∧ OEs w Z n xs vs A ∧ OEs w Z n ys (vs.drop (xs.length * n)) B
  | [], ys, vs, F => by
    simp only [List.nil_append, OEs, List.length_nil, Nat.zero_mul, List.drop_zero]
    constructor
    · intro h; exact ⟨[], F, rfl, rfl, h⟩
    · rintro ⟨A, B, rfl, rfl, h⟩; exact h
  | x :: xs, ys, vs, F => by
    simp only [List.cons_append, OEs]
    constructor
    · rintro ⟨F1, F2, h1, rfl, h2, h3⟩
      obtain ⟨A, B, rfl, h4, h5⟩ := OEs_append.1 h3
      refine ⟨F1 ++ A, B, by simp, ⟨F1, A, h1, rfl, h2, h4⟩, ?_⟩
      rw [List.drop_drop] at h5
      rw [List.length_cons, Nat.succ_mul, Nat.add_comm]
      exact h5
    · rintro ⟨A, B, rfl, ⟨F1, F2, h1, rfl, h2, h3⟩, h4⟩
      refine ⟨F1, F2 ++ B, h1, by simp, h2, OEs_append.2 ⟨F2, B, rfl, h3, ?_⟩⟩
      rw [List.drop_drop]
      rw [List.length_cons, Nat.succ_mul, Nat.add_comm] at h4
      exact h4
theorem OEs_one {w : World} {Z : Nat → Prop} {n : Nat} {x : D} {vs : List Value} {F : List Nat} : OEs w Z n [x] vs F ↔ n ≤ vs.length ∧ OE w Z x (vs.take n) F := by
  simp only [OEs]
  constructor
  · rintro ⟨F1, F2, h1, rfl, h2, rfl⟩; simpa using ⟨h1, h2⟩
  · rintro ⟨h1, h2⟩; exact ⟨F, [], h1, by simp, h2, rfl⟩
theorem OEs_size {w : World} {Z : Nat → Prop} {n : Nat} : ∀ {xs : List D} {vs : List Value} {F : List Nat}, OEs w Z n xs vs F → xs.length * n ≤ vs.length
  | [], vs, F, _ => by simp
  | x :: xs, vs, F, h => by
    simp only [OEs] at h
    obtain ⟨F1, F2, h1, _, _, h3⟩ := h
    have := OEs_size h3
    rw [List.length_drop] at this
    rw [List.length_cons, Nat.succ_mul]
    omega
/-- Only so many values matter. -/
theorem OEs_values {w : World} {Z : Nat → Prop} {n : Nat} : ∀ {xs : List D} {vs us : List Value} {F : List Nat}, OEs w Z n xs vs F → (∀ j, j < xs.length * n → us[j]? = vs[j]?) → OEs w Z n xs us F
  | [], vs, us, F, h, _ => by simpa only [OEs] using h
  | x :: xs, vs, us, F, h, hu => by
    have hsz := OEs_size h
    simp only [OEs] at h ⊢
    obtain ⟨F1, F2, h1, h2, h3, h4⟩ := h
    rw [List.length_cons, Nat.succ_mul] at hu hsz
    have hlen : n ≤ us.length := by
      by_cases hn : n = 0
      · omega
      · have := hu (n - 1) (by omega)
        rw [List.getElem?_eq_getElem (by omega : n - 1 < vs.length)] at this
        have := (List.getElem?_eq_some_iff.1 this).1
        omega
    have htake : us.take n = vs.take n := by
      apply List.ext_getElem?
      intro j
      rw [List.getElem?_take, List.getElem?_take]
      split
      · exact hu j (by omega)
      · rfl
    refine ⟨F1, F2, hlen, h2, by rw [htake]; exact h3, OEs_values h4 fun j hj => ?_⟩
    rw [List.getElem?_drop, List.getElem?_drop]
    exact hu (n + j) (by omega)
theorem split_at {xs : List D} {i : Nat} {x : D} (h : xs[i]? = some x) : xs = xs.take i ++ ([x] ++ xs.drop (i + 1)) ∧ (xs.take i).length = i := by
  have hl := (List.getElem?_eq_some_iff.1 h).1
  refine ⟨?_, by rw [List.length_take]; omega⟩
  apply List.ext_getElem?
  intro j
  rw [List.getElem?_append]
  rw [List.length_take, Nat.min_eq_left (by omega)]
  split
  · rename_i hj; rw [List.getElem?_take, if_pos hj]
  · rename_i hj
    rw [List.getElem?_append]
    split
    · rename_i hk
      simp at hk
      have : j = i := by omega
      subst this
      simp [h]
    · rename_i hk
      simp at hk
      rw [List.getElem?_drop]
      simp
      congr 1
      omega
/-- One element, among the others. -/
theorem OEs_at {w : World} {Z : Nat → Prop} {n : Nat} {xs : List D} {vs : List Value} {F : List Nat} {i : Nat} {x : D} (h : OEs w Z n xs vs F) (hx : xs[i]? = some x) :
    ∃ A Fi B, F = A ++ Fi ++ B ∧ OEs w Z n (xs.take i) vs A ∧ OE w Z x ((vs.drop (i * n)).take n) Fi ∧ OEs w Z n (xs.drop (i + 1)) (vs.drop ((i + 1) * n)) B ∧ (i + 1) * n ≤ vs.length := by
  obtain ⟨h1, h2⟩ := split_at hx
  have hsz := OEs_size h
  rw [h1] at h
  obtain ⟨A, B', rfl, h3, h4⟩ := OEs_append.1 h
  obtain ⟨Fi, B, rfl, h5, h6⟩ := OEs_append.1 h4
  rw [h2] at h5 h6
  obtain ⟨h7, h8⟩ := OEs_one.1 h5
  rw [List.length_drop] at h7
  rw [List.drop_drop] at h6
  simp only [List.length_singleton, Nat.one_mul] at h6
  have hl := (List.getElem?_eq_some_iff.1 hx).1
  refine ⟨A, Fi, B, by simp, h3, h8, by rw [Nat.succ_mul]; exact h6, ?_⟩
  exact Nat.le_trans (Nat.mul_le_mul_right n hl) hsz
theorem OEs_put {w : World} {Z : Nat → Prop} {n : Nat} {xs : List D} {vs : List Value} {A Fi B : List Nat} {i : Nat} {x : D} (hi : i < xs.length) (h1 : OEs w Z n (xs.take i) vs A) (h2 : OE w Z x ((vs.drop (i * n)).take n) Fi) (h3 : OEs w Z n (xs.drop (i + 1)) (vs.drop ((i + 1) * n)) B) (h4 : (i + 1) * n ≤ vs.length) :
    OEs w Z n (xs.set i x) vs (A ++ Fi ++ B) := by
  have e : xs.set i x = xs.take i ++ ([x] ++ xs.drop (i + 1)) := by
    rw [List.set_eq_take_append_cons_drop, if_pos hi]
    simp
  have hl : (xs.take i).length = i := by rw [List.length_take]; omega
  rw [e, List.append_assoc]
  refine OEs_append.2 ⟨A, Fi ++ B, rfl, h1, OEs_append.2 ⟨Fi, B, rfl, ?_, ?_⟩⟩
  · rw [hl]
    refine OEs_one.2 ⟨?_, h2⟩
    rw [List.length_drop]
    rw [Nat.succ_mul] at h4
    omega
  · rw [hl, List.drop_drop]
    simp only [List.length_singleton, Nat.one_mul]
    rw [Nat.succ_mul] at h3
    exact h3
theorem OCs_append {w : World} {Z : Nat → Prop} : ∀ {xs ys : List D} {vs : List Value} {F : List Nat}, OCs w Z (xs ++ ys) vs F ↔ ∃ v1 v2 A B, vs = v1 ++ v2 ∧ F = A ++ B ∧ v1.length = xs.length ∧ OCs w Z xs v1 A ∧ OCs w Z ys v2 B
  | [], ys, vs, F => by
    simp only [List.nil_append, OCs]
    constructor
    · intro h; exact ⟨[], vs, [], F, rfl, rfl, rfl, ⟨rfl, rfl⟩, h⟩
    · rintro ⟨v1, v2, A, B, rfl, rfl, _, ⟨rfl, rfl⟩, h⟩; exact h
  | x :: xs, ys, vs, F => by
    simp only [List.cons_append, OCs]
    constructor
    · rintro ⟨v, vs', F1, F2, rfl, rfl, h1, h2⟩
      obtain ⟨v1, v2, A, B, rfl, rfl, h3, h4, h5⟩ := OCs_append.1 h2
      exact ⟨v :: v1, v2, F1 ++ A, B, rfl, by simp, by simp [h3], ⟨v, v1, F1, A, rfl, rfl, h1, h4⟩, h5⟩
    · rintro ⟨v1, v2, A, B, rfl, rfl, h3, ⟨v, v1', F1, F2, rfl, rfl, h1, h2⟩, h5⟩
      exact ⟨v, v1' ++ v2, F1, F2 ++ B, rfl, by simp, h1, OCs_append.2 ⟨v1', v2, F2, B, rfl, rfl, by simpa using h3, h2, h5⟩⟩
theorem plain_OC {w : World} {Z : Nat → Prop} {x : D} {v : Value} (hp : plainC x = true) (h : RD w Z x [v]) : OC w Z x v [] := by
  cases x <;> first
    | (simp [plainC] at hp; done)
    | (simp only [OC]; exact ⟨h, trivial⟩)
theorem OC_plain {w : World} {Z : Nat → Prop} {x : D} {v : Value} {F : List Nat} (hp : plainC x = true) (h : OC w Z x v F) : F = [] := by
  cases x <;> first
    | (simp [plainC] at hp; done)
    | (simp only [OC] at h; exact h.2)
theorem plain_OCs {w : World} {Z : Nat → Prop} : ∀ {xs : List D} {vs : List Value}, xs.all plainC = true → RDs w Z xs vs → OCs w Z xs vs []
  | [], vs, _, h => by simp only [RDs] at h; simp only [OCs]; exact ⟨h, trivial⟩
  | x :: xs, vs, hp, h => by
    simp only [List.all_cons, Bool.and_eq_true] at hp
    simp only [RDs] at h
    obtain ⟨v, vs', h1, h2, h3⟩ := h
    simp only [OCs]
    exact ⟨v, vs', [], [], h1, rfl, plain_OC hp.1 h2, plain_OCs hp.2 h3⟩
theorem OCs_plain {w : World} {Z : Nat → Prop} : ∀ {xs : List D} {vs : List Value} {F : List Nat}, xs.all plainC = true → OCs w Z xs vs F → F = []
  | [], vs, F, _, h => by simp only [OCs] at h; exact h.2
  | x :: xs, vs, F, hp, h => by
    simp only [List.all_cons, Bool.and_eq_true] at hp
    simp only [OCs] at h
    obtain ⟨v, vs', F1, F2, _, rfl, h2, h3⟩ := h
    rw [OC_plain hp.1 h2, OCs_plain hp.2 h3]
    rfl

/-- What may be read of an object's elements. -/
theorem RO_rd {w : World} {L : Loc} {Z : Nat → Prop} {s : Sto} {r : Id} {sz : Elt} {xs : List D} (hobj : ∀ r ob, s.get r = some ob → RO (cxOf w Z L s) r ob) (h : s.rd r = some (sz, xs)) :
    (L r = none → xs = []) ∧ ∀ b, L r = some b → ∃ vs, w.heap[b]? = some (.cells vs sz.1 (0, 0)) ∧ xs.length * sz.2 ≤ vs.size ∧ Rows w Z xs b 0 sz.2 := by
  unfold Sto.rd at h
  split at h
  case h_2 => cases h
  case h_1 ob ho =>
    have hro := hobj r ob ho
    have cells : ∀ {b : Nat} {vs : Array Value} {t : TypeId}, w.heap[b]? = some (.cells vs t (0, 0)) → ∀ j u, vs.toList[j]? = some u → w.cell? ⟨b, 0 + j, none⟩ = some u := by
      intro b vs t hb j u hj
      simp only [World.cell?, hb, Nat.zero_add]
      simpa using hj
    cases ob with
    | box _ => cases h
    | gone _ _ => cases h
    | rows s' ys =>
      simp only [Obj.rd] at h
      injection h with h; injection h with e1 e2; subst e1; subst e2
      simpa only [RO] using hro
    | orows s' ys =>
      simp only [Obj.rd] at h
      injection h with h; injection h with e1 e2; subst e1; subst e2
      simp only [RO] at hro
      refine ⟨fun e => (hro.1 e).1, fun b hb => ?_⟩
      obtain ⟨vs, F, k1, k2, k3, _, _⟩ := hro.2 b hb
      exact ⟨vs, k1, k2, OEs_Rows _ _ _ _ k3 b 0 (cells k1)⟩
    | hrows s' ys i off q esz =>
      simp only [Obj.rd] at h
      injection h with h; injection h with e1 e2; subst e1; subst e2
      simp only [RO] at hro
      obtain ⟨b, vs, pre, ys0, post, A1, A2, B1, B2, v, h1, h2, h3, h4, h5, h6, h7, h8, h9, h10, h11, h12, h13, h14, h16, h17⟩ := hro
      refine ⟨fun e => (by have e' : L r = none := e; have h1' : L r = some b := h1; rw [h1'] at e'; cases e'), fun b' hb' => ?_⟩
      have hbb : b = b' := by have h1' : L r = some b := h1; rw [h1'] at hb'; injection hb'
      subst hbb
      refine ⟨vs, h2, h3, Rows_iff.2 fun j x hx => ?_⟩
      have pieces : ∀ (zs : List D) (k : Nat) (G : List Nat), OEs w Z s'.2 zs (vs.toList.drop (k * s'.2)) G → ∀ (m : Nat) (x : D), zs[m]? = some x → ∃ cs, cs.length = s'.2 ∧ RD w Z x cs ∧ ∀ j v, cs[j]? = some v → w.cell? ⟨b, 0 + (k + m) * s'.2 + j, none⟩ = some v := by
        intro zs k G hG m x hm
        have := OEs_Rows _ _ _ _ hG b (k * s'.2) (fun j u hj => by
          rw [List.getElem?_drop] at hj
          have := cells h2 _ _ hj
          rwa [Nat.zero_add] at this)
        obtain ⟨cs, p1, p2, p3⟩ := Rows_iff.1 this m x hm
        refine ⟨cs, p1, p2, fun j v hj => ?_⟩
        rw [Nat.zero_add, Nat.add_mul]
        exact p3 j v hj
      by_cases hlt : j < i.toNat
      · obtain ⟨cs, p1, p2, p3⟩ := pieces (ys.take i.toNat) 0 A1 (by simpa using h8) j x (by rw [List.getElem?_take, if_pos hlt]; exact hx)
        exact ⟨cs, p1, p2, fun m v hm => by simpa using p3 m v hm⟩
      · by_cases heq : j = i.toNat
        · subst heq
          rw [h5] at hx
          injection hx with hx
          subst hx
          have hv : ∃ a n c, v = .slice a n c := by
            simp only [RV] at h13
            obtain ⟨a, n, cap, _, e, _⟩ := h13
            exact ⟨a, n, cap, e⟩
          obtain ⟨va, vn, vc, hv⟩ := hv
          have g1 := OCs_RDs _ _ _ h9
          have g2 := OCs_RDs _ _ _ h10
          have hx' : (i.toNat + 1) * s'.2 ≤ vs.size := by
            have := (List.getElem?_eq_some_iff.1 h5).1
            exact Nat.le_trans (Nat.mul_le_mul_right _ this) h3
          rw [Nat.succ_mul] at hx'
          have l1 : ((vs.toList.drop (i.toNat * s'.2)).take off).length = off := by simp; omega
          have l2 : ((vs.toList.drop (i.toNat * s'.2 + off + 1)).take (s'.2 - (off + 1))).length = post.length := by simp; omega
          refine ⟨(vs.toList.drop (i.toNat * s'.2)).take off ++ v :: (vs.toList.drop (i.toNat * s'.2 + off + 1)).take (s'.2 - (off + 1)), by rw [List.length_append, List.length_cons, l1, l2]; omega, ?_, fun m u hm => ?_⟩
          · simp only [RD]
            rw [RDs_iff] at g1 g2 ⊢
            refine ⟨by simp only [List.length_append, List.length_cons]; rw [l1, l2]; omega, fun m d u hd hu => ?_⟩
            rw [List.getElem?_append] at hd hu
            rw [l1] at hu
            rw [h6] at hd
            split at hd
            · rename_i hm; rw [if_pos hm] at hu; exact g1.2 m d u hd hu
            · rename_i hm
              rw [if_neg hm] at hu
              cases hmo : m - off with
              | zero =>
                simp [hmo] at hd hu
                subst hd; subst hu
                simp only [RD]
                exact ⟨va, vn, vc, by rw [hv]⟩
              | succ k =>
                simp only [hmo, List.getElem?_cons_succ] at hd hu
                exact g2.2 k d u hd hu
          · rw [List.getElem?_append, l1] at hm
            have hcell : vs.toList[i.toNat * s'.2 + m]? = some u := by
              split at hm
              · rename_i hmo
                rw [List.getElem?_take, if_pos hmo, List.getElem?_drop] at hm
                exact hm
              · rename_i hmo
                cases hk : m - off with
                | zero =>
                  simp [hk] at hm
                  subst hm
                  have : m = off := by omega
                  subst this
                  simpa using h12
                | succ k =>
                  simp only [hk, List.getElem?_cons_succ] at hm
                  rw [List.getElem?_take] at hm
                  split at hm
                  · rw [List.getElem?_drop] at hm
                    rw [show i.toNat * s'.2 + m = i.toNat * s'.2 + off + 1 + k by omega]
                    exact hm
                  · cases hm
            have := cells h2 _ _ hcell
            rwa [← Nat.add_assoc] at this
        · obtain ⟨cs, p1, p2, p3⟩ := pieces (ys.drop (i.toNat + 1)) (i.toNat + 1) B2 h11 (j - (i.toNat + 1)) x (by rw [List.getElem?_drop, show i.toNat + 1 + (j - (i.toNat + 1)) = j by omega]; exact hx)
          refine ⟨cs, p1, p2, fun m v hm => ?_⟩
          have := p3 m v hm
          rwa [show i.toNat + 1 + (j - (i.toNat + 1)) = j by omega] at this

mutual
theorem OC_froze {w : World} {Z Z' : Nat → Prop} (hz : ∀ b, Z b → Z' b) : ∀ (x : D) (v : Value) (F : List Nat), (∀ k ∈ F, Z' k) → OC w Z x v F → RD w Z' (frozeD x) [v]
  | .own sz xs, v, F, hf, h => by
    simp only [OC] at h
    obtain ⟨a, c, h1, h2⟩ := h
    simp only [frozeD, RD]
    rcases h2 with ⟨rfl, rfl, _⟩ | ⟨b, vs, F', e1, rfl, e3, e4, e5, e6, e7⟩
    · exact ⟨a, 0, by rw [h1.1]; rfl, Nat.le_refl _, .inl rfl⟩
    · refine ⟨a, c, by rw [h1.1, frozeL_len], ?_, .inr ⟨b, 0, sz.2, e1, hf b (by simp), ?_⟩⟩
      · rw [frozeL_len]
        refine Nat.le_of_mul_le_mul_right (c := sz.2) ?_ e5
        rw [e4]; exact e6
      · refine OEs_froze hz sz.2 xs vs.toList F' (fun k hk => hf k (by simp [hk])) e7 b 0 fun j u hj => ?_
        simp only [World.cell?, e3]
        simpa using hj
  | .agg _, _, _, _, h => by simp [OC] at h
  | .int k n, v, F, _, h => by simp only [OC] at h; simp only [frozeD]; exact RD_mono (fun b hb => ⟨hz b hb, rfl⟩) _ _ h.1
  | .bool b, v, F, _, h => by simp only [OC] at h; simp only [frozeD]; exact RD_mono (fun b hb => ⟨hz b hb, rfl⟩) _ _ h.1
  | .str s, v, F, _, h => by simp only [OC] at h; simp only [frozeD]; exact RD_mono (fun b hb => ⟨hz b hb, rfl⟩) _ _ h.1
  | .lst xs, v, F, _, h => by simp only [OC] at h; simp only [frozeD]; exact RD_mono (fun b hb => ⟨hz b hb, rfl⟩) _ _ h.1
theorem OCs_froze {w : World} {Z Z' : Nat → Prop} (hz : ∀ b, Z b → Z' b) : ∀ (xs : List D) (vs : List Value) (F : List Nat), (∀ k ∈ F, Z' k) → OCs w Z xs vs F → RDs w Z' (frozeL xs) vs
  | [], vs, F, _, h => by simp only [OCs] at h; simp only [frozeL, RDs]; exact h.1
  | d :: ds, vs, F, hf, h => by
    simp only [OCs] at h
    obtain ⟨v, vs', F1, F2, h1, rfl, h2, h3⟩ := h
    simp only [frozeL, RDs]
    exact ⟨v, vs', h1, OC_froze hz d v F1 (fun k hk => hf k (by simp [hk])) h2, OCs_froze hz ds vs' F2 (fun k hk => hf k (by simp [hk])) h3⟩
theorem OE_froze {w : World} {Z Z' : Nat → Prop} (hz : ∀ b, Z b → Z' b) : ∀ (x : D) (vs : List Value) (F : List Nat), (∀ k ∈ F, Z' k) → OE w Z x vs F → RD w Z' (frozeD x) vs
  | .agg ds, vs, F, hf, h => by simp only [OE] at h; simp only [frozeD, RD]; exact OCs_froze hz ds vs F hf h
  | .own sz xs, vs, F, hf, h => by
    simp only [OE] at h
    obtain ⟨v, rfl, h2⟩ := h
    exact OC_froze hz (.own sz xs) v F hf h2
  | .int k n, v, F, _, h => by simp only [OE] at h; simp only [frozeD]; exact RD_mono (fun b hb => ⟨hz b hb, rfl⟩) _ _ h.1
  | .bool b, v, F, _, h => by simp only [OE] at h; simp only [frozeD]; exact RD_mono (fun b hb => ⟨hz b hb, rfl⟩) _ _ h.1
  | .str s, v, F, _, h => by simp only [OE] at h; simp only [frozeD]; exact RD_mono (fun b hb => ⟨hz b hb, rfl⟩) _ _ h.1
  | .lst xs, v, F, _, h => by simp only [OE] at h; simp only [frozeD]; exact RD_mono (fun b hb => ⟨hz b hb, rfl⟩) _ _ h.1
theorem OEs_froze {w : World} {Z Z' : Nat → Prop} (hz : ∀ b, Z b → Z' b) (n : Nat) : ∀ (xs : List D) (vs : List Value) (F : List Nat), (∀ k ∈ F, Z' k) → OEs w Z n xs vs F → ∀ (b o : Nat), (∀ j u, vs[j]? = some u → w.cell? ⟨b, o + j, none⟩ = some u) → Rows w Z' (frozeL xs) b o n
  | [], vs, F, _, _, b, o, _ => by simp only [frozeL, Rows]
  | x :: xs, vs, F, hf, h, b, o, hc => by
    simp only [OEs] at h
    obtain ⟨F1, F2, h1, rfl, h2, h3⟩ := h
    simp only [frozeL, Rows]
    refine ⟨⟨vs.take n, by simp [h1], OE_froze hz x _ F1 (fun k hk => hf k (by simp [hk])) h2, fun j u hj => ?_⟩, OEs_froze hz n xs _ F2 (fun k hk => hf k (by simp [hk])) h3 b (o + n) fun j u hj => ?_⟩
    · rw [List.getElem?_take] at hj
      split at hj
      · exact hc j u hj
      · cases hj
    · rw [List.getElem?_drop] at hj
      rw [show o + n + j = o + (n + j) by omega]
      exact hc (n + j) u hj
end

/-- A whole object that owns, taken as data. -/
theorem orows_data {w : World} {L : Loc} {Z Z' : Nat → Prop} {s : Sto} {r : Id} {sz esz : Elt} {xs : List D} {u : Bool} {v : Value} (hz : ∀ b, Z b → Z' b) (hg : s.get r = some (.orows esz xs)) (hro : RO (cxOf w Z L s) r (.orows esz xs))
    (hZ : ∀ b, (Obj.orows esz xs).has L r b → Z' b) (hv : RV (cxOf w Z L s) (.arr r sz none u) v) : RD w Z' (.lst (frozeL xs)) [v] := by
  simp only [RV] at hv
  obtain ⟨a, n, cap, ys, h1, ⟨h2, _⟩, _, h4, h5, _, h7, h8⟩ := hv
  have h4' : (s.get r).bind Obj.rw = some (sz, ys) := h4
  rw [hg] at h4'
  simp only [Option.bind_some, Obj.rw] at h4'
  injection h4' with h4'
  injection h4' with e1 e2
  subst e1
  subst e2
  have hn := h5 trivial
  simp only [RO] at hro
  simp only [RD]
  cases hL : L r with
  | none =>
    have hx := (hro.1 hL).1
    refine ⟨a, cap, by rw [h1, hn, frozeL_len], by rw [frozeL_len, ← hn]; exact h2, .inl ?_⟩
    rw [hx]; rfl
  | some b =>
    obtain ⟨vs, F, k1, k2, k3, k4, k5⟩ := hro.2 b hL
    refine ⟨a, cap, by rw [h1, hn, frozeL_len], by rw [frozeL_len, ← hn]; exact h2, .inr ?_⟩
    rcases h8 b hL with ⟨_, m⟩ | ⟨m, _⟩
    · exact (m rfl).elim
    · refine ⟨b, 0, esz.2, by simpa [rngOff] using m, hZ b (.inl hL), OEs_froze hz esz.2 xs vs.toList F (fun k hk => hZ k (.inr ⟨rfl, (k5 k).2 hk⟩)) k3 b 0 fun j u hj => ?_⟩
      simp only [World.cell?, k1]
      simpa using hj

def Kept (w : World) (L : Loc) (Z0 Z : Nat → Prop) (s0 s : Sto) : Prop :=
  (∀ b, Z0 b → Z b) ∧ ∀ q, (s.get q).isSome → (s0.get q).isSome ∧ Same (cxOf w Z0 L s0) (cxOf w Z L s) q

theorem Kept.refl (w : World) (L : Loc) (Z : Nat → Prop) (s : Sto) : Kept w L Z Z s s :=
  ⟨fun _ h => h, fun _ hq => ⟨hq, rfl, fun k => k, fun _ xs k => ⟨xs, k, rfl⟩, fun _ _ _ => rfl⟩⟩

theorem Kept.kill {w : World} {L : Loc} {Z0 Z Z' : Nat → Prop} {s0 : Sto} {s : St} (h : Kept w L Z0 Z s0 s.sto) (r : Id) (hz : ∀ b, Z b → Z' b) : Kept w L Z0 Z' s0 (s.kill r).sto := by
  refine ⟨fun b hb => hz b (h.1 b hb), fun q hq => ?_⟩
  have hne : q ≠ r := fun e => by rw [kill_get, if_pos e] at hq; cases hq
  have hq' : (s.sto.get q).isSome := by rw [kill_get, if_neg hne] at hq; simpa using hq
  obtain ⟨k0, k1, k2, k3, k4⟩ := h.2 q hq'
  obtain ⟨m1, m2, m3, m4⟩ := kill_same (s := s) (w := w) (L := L) (Z := Z) (Z' := Z') hne
  refine ⟨k0, m1.trans k1, fun k => m2 (k2 k), fun sz xs k => ?_, fun b hb hs => rfl⟩
  obtain ⟨ys, n1, n2⟩ := k3 sz xs k
  obtain ⟨zs, n3, n4⟩ := m3 sz ys n1
  exact ⟨zs, n3, n4.trans n2⟩

theorem Kept.rv {w : World} {L : Loc} {Z0 Z : Nat → Prop} {s0 s : Sto} (h : Kept w L Z0 Z s0 s) {x : AV} {v : Value} (hr : ∀ r ∈ x.refs, (s.get r).isSome) (hv : RV (cxOf w Z0 L s0) x v) : RV (cxOf w Z L s) x v :=
  RV_mono (c := cxOf w Z0 L s0) (c' := cxOf w Z L s) (fun b hb => ⟨h.1 b hb, rfl⟩) x v (fun r hm => (h.2 r (hr r hm)).2) hv

/-- A value that means something as soon as its names do. -/
def RVw (c : Cx) (x : AV) (v : Value) : Prop := (∀ r ∈ x.refs, (c.obj r).isSome) → RV c x v
def RVsw (c : Cx) (xs : List AV) (vs : List Value) : Prop := (∀ r ∈ AV.refsL xs, (c.obj r).isSome) → RVs c xs vs

theorem Kept.trans {w : World} {L : Loc} {Z0 Z1 Z2 : Nat → Prop} {s0 s1 s2 : Sto} (h : Kept w L Z0 Z1 s0 s1) (k : Kept w L Z1 Z2 s1 s2) : Kept w L Z0 Z2 s0 s2 := by
  refine ⟨fun b hb => k.1 b (h.1 b hb), fun q hq => ?_⟩
  obtain ⟨a1, a2, a3, a4, a5⟩ := k.2 q hq
  obtain ⟨b1, b2, b3, b4, b5⟩ := h.2 q a1
  refine ⟨b1, a2.trans b2, fun m => a3 (b3 m), fun sz xs m => ?_, fun _ _ _ => rfl⟩
  obtain ⟨ys, n1, n2⟩ := b4 sz xs m
  obtain ⟨zs, n3, n4⟩ := a4 sz ys n1
  exact ⟨zs, n3, n4.trans n2⟩

mutual
theorem fz_sound {a : Act} {w : World} {L : Loc} {Z0 : Nat → Prop} {s0 : Sto} (np : Nat) : ∀ (x : AV) (v : Value) (s s' : St) (x' : AV) (Z : Nat → Prop), RS s a w L Z → Kept w L Z0 Z s0 s.sto → RV (cxOf w Z0 L s0) x v →
    fz (real call loop) s x = some (x', s') → ∃ Z', RS s' a w L Z' ∧ Tr np s.sto s'.sto w w L L Z Z' ∧ Kept w L Z Z' s.sto s'.sto ∧ RVw (cxOf w Z' L s'.sto) x' v
  | .emp, v, s, s', x', Z, h, hk, hv, e => by
    simp only [fz] at e; injection e with e; injection e with e1 e2; subst e1; subst e2
    refine ⟨Z, h, Tr.refl _ _ _ _ _, Kept.refl _ _ _ _, fun _ => ?_⟩
    simp only [RV] at hv; obtain ⟨A, h1⟩ := hv
    simp only [RV, RD]
    exact ⟨A, 0, by rw [h1]; rfl, Nat.le_refl _, .inl trivial⟩
  | .arr r sz g u, v, s, s', x', Z, h, hk, hv, e => by
    simp only [fz] at e
    split at e
    case h_1 esz xs hg =>
       cases g with
       | some p => cases e
       | none =>
         simp only at e
         injection e with e; injection e with e1 e2; subst e1; subst e2
         have hv' := hk.rv (x := .arr r sz none u) (by intro q hq; simp [AV.refs] at hq; subst hq; simp [hg]) hv
         obtain ⟨k1, k2⟩ := h.killZ hg np
         refine ⟨_, k1, k2, Kept.kill (Kept.refl _ _ _ _) r (fun b hb => .inl hb), fun _ => ?_⟩
         simp only [RV]
         exact orows_data (fun b hb => .inl hb) hg (h.obj r _ hg) (fun b hb => .inr hb) hv'
    case h_2 hnot =>
     split at e
     case h_2 => cases e
     case h_1 xs hc =>
       injection e with e; injection e with e1 e2; subst e1; subst e2
       have hlive : (s.sto.get r).isSome := by
         simp only [content] at hc
         split at hc
         · rename_i hr; simp [hr]
         · cases hc
       obtain ⟨ob, hob⟩ := Option.isSome_iff_exists.1 hlive
       have hv' := hk.rv (x := .arr r sz g u) (by intro q hq; simp [AV.refs] at hq; subst hq; exact hlive) hv
       obtain ⟨A, cap, h1, h2, h3⟩ := content_sound h.obj hv' hc
       obtain ⟨k1, k2⟩ := h.killZ hob np
       refine ⟨_, k1, k2, Kept.kill (Kept.refl _ _ _ _) r (fun b hb => .inl hb), fun _ => ?_⟩
       simp only [RV, RD]
       refine ⟨A, cap, by rw [h1], h2, h3.imp id ?_⟩
       rintro ⟨b, o, z, h4, h5, h6⟩
       refine ⟨b, o, z, h4, ?_, Rows_mono (w := w) (w' := w) (Z := Z) (fun b hb => ⟨.inl hb, rfl⟩) rfl _ _ _ h5⟩
       rcases h6 with h6 | ⟨r', z', g', u', ob', e1, e2, e3⟩
       · exact .inl h6
       · injection e1 with e1; subst e1; exact .inr (.inl e3)
  | .agg cs, v, s, s', x', Z, h, hk, hv, e => by
    simp only [fz] at e
    split at e
    case h_2 => cases e
    case h_1 ds s2 hc =>
      injection e with e; injection e with e1 e2; subst e1; subst e2
      simp only [RV] at hv
      obtain ⟨vs, h1, h2⟩ := hv
      obtain ⟨Z', k1, k2, k3, k4⟩ := fzL_sound np cs vs s _ _ Z h hk h2 hc
      refine ⟨Z', k1, k2, k3, fun hr => ?_⟩
      simp only [RV]
      exact ⟨vs, h1, k4 (by simpa [AV.refs] using hr)⟩
  | .tup cs, v, s, s', x', Z, h, hk, hv, e => by
    simp only [fz] at e
    split at e
    case h_2 => cases e
    case h_1 ds s2 hc =>
      injection e with e; injection e with e1 e2; subst e1; subst e2
      simp only [RV] at hv
      obtain ⟨vs, h1, h2⟩ := hv
      obtain ⟨Z', k1, k2, k3, k4⟩ := fzL_sound np cs vs s _ _ Z h hk h2 hc
      refine ⟨Z', k1, k2, k3, fun hr => ?_⟩
      simp only [RV]
      exact ⟨vs, h1, k4 (by simpa [AV.refs] using hr)⟩
  | .undef, v, s, s', x', Z, h, hk, hv, e => by
    simp only [fz] at e; injection e with e; injection e with e1 e2; subst e1; subst e2
    exact ⟨Z, h, Tr.refl _ _ _ _ _, Kept.refl _ _ _ _, fun hr => hk.rv hr hv⟩
  | .bare, v, s, s', x', Z, h, hk, hv, e => by
    simp only [fz] at e; injection e with e; injection e with e1 e2; subst e1; subst e2
    exact ⟨Z, h, Tr.refl _ _ _ _ _, Kept.refl _ _ _ _, fun hr => hk.rv hr hv⟩
  | .d y, v, s, s', x', Z, h, hk, hv, e => by
    simp only [fz] at e; injection e with e; injection e with e1 e2; subst e1; subst e2
    exact ⟨Z, h, Tr.refl _ _ _ _ _, Kept.refl _ _ _ _, fun hr => hk.rv hr hv⟩
  | .nilp, v, s, s', x', Z, h, hk, hv, e => by
    simp only [fz] at e; injection e with e; injection e with e1 e2; subst e1; subst e2
    exact ⟨Z, h, Tr.refl _ _ _ _ _, Kept.refl _ _ _ _, fun hr => hk.rv hr hv⟩
  | .ptr _ _, v, s, s', x', Z, h, hk, hv, e => by
    simp only [fz] at e; injection e with e; injection e with e1 e2; subst e1; subst e2
    exact ⟨Z, h, Tr.refl _ _ _ _ _, Kept.refl _ _ _ _, fun hr => hk.rv hr hv⟩
  | .prow _ _ _ _, v, s, s', x', Z, h, hk, hv, e => by
    simp only [fz] at e; injection e with e; injection e with e1 e2; subst e1; subst e2
    exact ⟨Z, h, Tr.refl _ _ _ _ _, Kept.refl _ _ _ _, fun hr => hk.rv hr hv⟩
  | .sp _ _, v, s, s', x', Z, h, hk, hv, e => by
    simp only [fz] at e; injection e with e; injection e with e1 e2; subst e1; subst e2
    exact ⟨Z, h, Tr.refl _ _ _ _ _, Kept.refl _ _ _ _, fun hr => hk.rv hr hv⟩
  | .fn _ _, v, s, s', x', Z, h, hk, hv, e => by
    simp only [fz] at e; injection e with e; injection e with e1 e2; subst e1; subst e2
    exact ⟨Z, h, Tr.refl _ _ _ _ _, Kept.refl _ _ _ _, fun hr => hk.rv hr hv⟩
theorem fzL_sound {a : Act} {w : World} {L : Loc} {Z0 : Nat → Prop} {s0 : Sto} (np : Nat) : ∀ (xs : List AV) (vs : List Value) (s s' : St) (xs' : List AV) (Z : Nat → Prop), RS s a w L Z → Kept w L Z0 Z s0 s.sto → RVs (cxOf w Z0 L s0) xs vs →
    fzL (real call loop) s xs = some (xs', s') → ∃ Z', RS s' a w L Z' ∧ Tr np s.sto s'.sto w w L L Z Z' ∧ Kept w L Z Z' s.sto s'.sto ∧ RVsw (cxOf w Z' L s'.sto) xs' vs
  | [], vs, s, s', xs', Z, h, hk, hv, e => by
    simp only [fzL] at e; injection e with e; injection e with e1 e2; subst e1; subst e2
    refine ⟨Z, h, Tr.refl _ _ _ _ _, Kept.refl _ _ _ _, fun _ => by simpa only [RVs] using hv⟩
  | x :: xs, vs, s, s', xs', Z, h, hk, hv, e => by
    simp only [fzL] at e
    split at e
    case h_2 => cases e
    case h_1 y s2 hc =>
      split at e
      case h_2 => cases e
      case h_1 ys s3 hc2 =>
        injection e with e; injection e with e1 e2; subst e1; subst e2
        simp only [RVs] at hv
        obtain ⟨v, vs', h1, h2, h3⟩ := hv
        obtain ⟨Z1, k1, k2, k3, k4⟩ := fz_sound np x v s s2 y Z h hk h2 hc
        obtain ⟨Z2, m1, m2, m3, m4⟩ := fzL_sound np xs vs' s2 s3 ys Z1 k1 (hk.trans k3) h3 hc2
        refine ⟨Z2, m1, k2.trans m2, k3.trans m3, fun hr => ?_⟩
        simp only [RVs]
        simp only [AV.refsL, List.mem_append] at hr
        refine ⟨v, vs', h1, ?_, m4 fun r hm => hr r (.inr hm)⟩
        exact m3.rv (fun r hm => hr r (.inl hm)) (k4 fun r hm => (m3.2 r (hr r (.inl hm))).1)
end

theorem flat_Rows {w : World} {Z : Nat → Prop} {b n : Nat} {vs : Array Value} {t : TypeId} (hb : w.heap[b]? = some (.cells vs t (0, 0))) : ∀ (xs : List D) (o : Nat), (real call loop).flat xs = true → xs.length * n + o ≤ vs.size → Rows w Z xs b o n → OEs w Z n xs (vs.toList.drop o) []
  | [], o, _, _, _ => by simp only [OEs]
  | x :: xs, o, hf, hl, h => by
    simp only [real, Ora.flat, List.all_cons, Bool.and_eq_true] at hf
    simp only [Rows] at h
    obtain ⟨⟨cs, h1, h2, h3⟩, h4⟩ := h
    rw [List.length_cons, Nat.succ_mul] at hl
    have hcs : (vs.toList.drop o).take n = cs := by
      apply List.ext_getElem?
      intro j
      rw [List.getElem?_take]
      split
      · rename_i hj
        rw [List.getElem?_drop]
        have hjc : cs[j]? = some cs[j] := List.getElem?_eq_getElem (by omega)
        have := h3 j _ hjc
        simp only [World.cell?, hb] at this
        rw [hjc]
        simpa using this
      · rename_i hj
        rw [List.getElem?_eq_none (by omega)]
    simp only [OEs]
    refine ⟨[], [], by simp; omega, rfl, ?_, ?_⟩
    · rw [hcs]
      cases x with
      | agg ds => simp only [OE]; simp only [RD] at h2; exact plain_OCs hf.1 h2
      | own _ _ => simp [plainC] at hf
      | int _ _ => simp only [OE]; exact ⟨h2, trivial⟩
      | bool _ => simp only [OE]; exact ⟨h2, trivial⟩
      | str _ => simp only [OE]; exact ⟨h2, trivial⟩
      | lst _ => simp only [OE]; exact ⟨h2, trivial⟩
    · rw [List.drop_drop]
      exact flat_Rows hb xs (o + n) (by simpa only [real, Ora.flat] using hf.2) (by omega) h4

/-- Blocks that were owned, and are handed over. -/
def Free (w : World) (L : Loc) (Z : Nat → Prop) (s0 s : Sto) (F : List Nat) : Prop := F.Nodup ∧ ∀ k ∈ F, ¬ Z k ∧ Lives s0 L k ∧ ¬ Lives s L k ∧ k < w.heap.size

theorem ownA_sound {a : Act} {w : World} {L : Loc} {Z0 Z : Nat → Prop} {s00 : Sto} (np : Nat) (x : AV) (v : Value) (s s' : St) (d : D) (h : RS s a w L Z) (hk : Kept w L Z0 Z s00 s.sto) (hv : RV (cxOf w Z0 L s00) x v)
    (e : ownA (real call loop) s x = some (d, s')) : RS s' a w L Z ∧ Tr np s.sto s'.sto w w L L Z Z ∧ Kept w L Z Z s.sto s'.sto ∧ ∃ F, OC w Z d v F ∧ Free w L Z s.sto s'.sto F := by
  have plain : ∀ y, plainC y = true → RD w Z y [v] → OC w Z y v [] := fun y hp hr => plain_OC hp hr
  cases x with
  | d y =>
    simp only [ownA] at e
    split at e
    case h_2 => cases e
    case h_1 hp =>
      injection e with e; injection e with e1 e2; subst e1; subst e2
      have := hk.rv (x := .d y) (by simp [AV.refs]) hv
      simp only [RV] at this
      exact ⟨h, Tr.refl _ _ _ _ _, Kept.refl _ _ _ _, [], plain y hp this, by simp [Free]⟩
  | emp =>
    simp only [ownA] at e
    injection e with e; injection e with e1 e2; subst e1; subst e2
    simp only [RV] at hv
    obtain ⟨A, hv⟩ := hv
    refine ⟨h, Tr.refl _ _ _ _ _, Kept.refl _ _ _ _, [], plain _ rfl ?_, by simp [Free]⟩
    simp only [RD]
    exact ⟨A, 0, by rw [hv]; rfl, Nat.le_refl _, .inl trivial⟩
  | arr r sz g u =>
    cases g with
    | some p => simp [ownA] at e
    | none =>
      simp only [ownA] at e
      split at e
      · cases e
      rename_i m hsz
      have hpos : 0 < sz.2 := by omega
      -- what both kinds share
      have main : ∀ (ob : Obj) (esz : Elt) (ys : List D), s.sto.get r = some ob → ob.rw = some (esz, ys) → (L r = none → ys = []) →
          (∀ b, L r = some b → ∃ vs F, w.heap[b]? = some (.cells vs esz.1 (0, 0)) ∧ ys.length * esz.2 ≤ vs.size ∧ OEs w Z esz.2 ys vs.toList F ∧ (b :: F).Nodup ∧ ∀ k ∈ F, ob.has L r k) →
          RS (s.kill r) a w L Z ∧ Tr np s.sto (s.kill r).sto w w L L Z Z ∧ Kept w L Z Z s.sto (s.kill r).sto ∧ ∃ F, OC w Z (.own sz ys) v F ∧ Free w L Z s.sto (s.kill r).sto F := by
        intro ob esz ys ho hrw h0 h1
        have hv' := hk.rv (x := .arr r sz none u) (by intro q hq; simp [AV.refs] at hq; subst hq; simp [ho]) hv
        refine ⟨h.kill r, Tr.kill np s w L Z r, Kept.kill (Kept.refl _ _ _ _) r (fun _ hb => hb), ?_⟩
        simp only [RV] at hv'
        obtain ⟨A, n, cap, zs, k1, ⟨k2, k2'⟩, _, k4, k5, _, k7, k8⟩ := hv'
        have k4' : (s.sto.get r).bind Obj.rw = some (sz, zs) := k4
        rw [ho] at k4'
        simp only [Option.bind_some, hrw] at k4'
        injection k4' with k4'
        injection k4' with e1 e2
        subst e1
        subst e2
        have hn := k5 trivial
        simp only [OC]
        cases hL : L r with
        | none =>
          have hy := h0 hL
          have hc := k7 hL
          exact ⟨[], ⟨A, cap, ⟨by rw [k1, hn], k2'⟩, .inl ⟨hc, hy, rfl⟩⟩, by simp [Free]⟩
        | some b =>
          obtain ⟨vs, F, m1, m2, m3, m4, m5⟩ := h1 b hL
          rcases k8 b hL with ⟨_, q⟩ | ⟨q1, q2⟩
          · exact (q rfl).elim
          · refine ⟨b :: F, ⟨A, cap, ⟨by rw [k1, hn], k2'⟩, .inr ⟨b, vs, F, by simpa [rngOff] using q1, rfl, m1, ?_, hpos, m2, m3⟩⟩, m4, fun k hk' => ?_⟩
            · simp only [rngOff, Nat.zero_add, blkSize, m1] at q2
              exact q2
            · have hhas : ob.has L r k := by
                rcases List.mem_cons.1 hk' with rfl | hk'
                · exact .inl hL
                · exact m5 k hk'
              refine ⟨fun hz => (h.dis k hz).2 ⟨r, ob, ho, hhas⟩, ⟨r, ob, ho, hhas⟩, not_lives_kill h ho hhas, h.has_lt ho hhas⟩
      split at e
      · rename_i esz ys ho
        injection e with e; injection e with e1 e2; subst e1; subst e2
        have hro := h.obj r _ ho
        simp only [RO] at hro
        refine main _ esz ys ho rfl (fun e => (hro.1 e).1) fun b hb => ?_
        obtain ⟨vs, F, m1, m2, m3, m4, m5⟩ := hro.2 b hb
        exact ⟨vs, F, m1, m2, m3, m4, fun k hk' => .inr ⟨rfl, (m5 k).2 hk'⟩⟩
      · rename_i esz ys ho
        split at e
        case h_2 => cases e
        case h_1 hf =>
          injection e with e; injection e with e1 e2; subst e1; subst e2
          have hro := h.obj r _ ho
          simp only [RO] at hro
          refine main _ esz ys ho rfl hro.1 fun b hb => ?_
          obtain ⟨vs, m1, m2, m3⟩ := hro.2 b hb
          exact ⟨vs, [], m1, m2, by simpa using flat_Rows m1 ys 0 hf (by simpa using m2) m3, by simp, by simp⟩
      · cases e
  | _ => simp [ownA] at e

theorem ownL_sound {a : Act} {w : World} {L : Loc} {Z0 Z : Nat → Prop} {s00 : Sto} (np : Nat) : ∀ (xs : List AV) (vs : List Value) (s s' : St) (ds : List D), RS s a w L Z → Kept w L Z0 Z s00 s.sto → RVs (cxOf w Z0 L s00) xs vs →
    ownL (real call loop) s xs = some (ds, s') → RS s' a w L Z ∧ Tr np s.sto s'.sto w w L L Z Z ∧ Kept w L Z Z s.sto s'.sto ∧ ∃ F, OCs w Z ds vs F ∧ Free w L Z s.sto s'.sto F
  | [], vs, s, s', ds, h, hk, hv, e => by
    simp only [ownL] at e
    injection e with e; injection e with e1 e2; subst e1; subst e2
    simp only [RVs] at hv
    exact ⟨h, Tr.refl _ _ _ _ _, Kept.refl _ _ _ _, [], by simp only [OCs]; exact ⟨hv, trivial⟩, by simp [Free]⟩
  | x :: xs, vs, s, s', ds, h, hk, hv, e => by
    simp only [ownL] at e
    split at e
    case h_2 => cases e
    case h_1 y s2 hc =>
      split at e
      case h_2 => cases e
      case h_1 ys s3 hc2 =>
        injection e with e; injection e with e1 e2; subst e1; subst e2
        simp only [RVs] at hv
        obtain ⟨v, vs', h1, h2, h3⟩ := hv
        obtain ⟨k1, k2, k3, F1, k4, k5, k6⟩ := ownA_sound np x v s s2 y h hk h2 hc
        obtain ⟨m1, m2, m3, F2, m4, m5, m6⟩ := ownL_sound np xs vs' s2 s3 ys k1 (hk.trans k3) h3 hc2
        have back : ∀ k, Lives s2.sto L k → Lives s.sto L k := fun k hl => by
          rcases k2.lives k hl with m | m
          · exact m
          · obtain ⟨q, ob, g1, g2⟩ := hl
            have := k1.has_lt g1 g2
            omega
        have back' : ∀ k, Lives s3.sto L k → Lives s2.sto L k := fun k hl => by
          rcases m2.lives k hl with m | m
          · exact m
          · obtain ⟨q, ob, g1, g2⟩ := hl
            have := m1.has_lt g1 g2
            omega
        refine ⟨m1, k2.trans m2, k3.trans m3, F1 ++ F2, ?_, ?_, fun k hk' => ?_⟩
        · simp only [OCs]
          exact ⟨v, vs', F1, F2, h1, rfl, k4, m4⟩
        · rw [List.nodup_append]
          refine ⟨k5, m5, fun x hx y hy hxy => ?_⟩
          subst hxy
          exact (k6 x hx).2.2.1 (m6 x hy).2.1
        · rcases List.mem_append.1 hk' with hk' | hk'
          · obtain ⟨p1, p2, p3, p4⟩ := k6 k hk'
            exact ⟨p1, p2, fun hl => p3 (back' k hl), p4⟩
          · obtain ⟨p1, p2, p3, p4⟩ := m6 k hk'
            exact ⟨p1, back k p2, p3, p4⟩

end Go.Vi
