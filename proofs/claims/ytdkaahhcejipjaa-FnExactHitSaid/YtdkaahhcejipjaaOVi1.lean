/- What the interpreter's values mean in memory. -/
import Derived.Test.YtdkaahhcejipjaaOVi0
import Derived.Calls
import Derived.Below
set_option linter.unusedVariables false
set_option linter.unusedSimpArgs false
set_option linter.unnecessarySimpa false
set_option linter.unusedSectionVars false
namespace Go.Vi
open Go Go.RowKit

def blkSize (w : World) (b : Nat) : Nat := match w.heap[b]? with | some (.cells c _ _) => c.size | _ => 0

mutual
/-- Data, as the cells of memory hold it; Z: the blocks that no longer change. -/
def RD (w : World) (Z : Nat → Prop) : D → List Value → Prop
  | .int k n, cs => cs = [.int k n]
  | .bool b, cs => cs = [.bool b]
  | .str s, cs => cs = [.string s]
  | .agg ds, cs => RDs w Z ds cs
  | .lst xs, cs => ∃ a c, cs = [.slice a xs.length c] ∧ xs.length ≤ c ∧ (xs = [] ∨ ∃ b o sz, a = some ⟨b, o, none⟩ ∧ Z b ∧ Rows w Z xs b o sz)
  | .own _ _, cs => ∃ a n c, cs = [.slice a n c]
def RDs (w : World) (Z : Nat → Prop) : List D → List Value → Prop
  | [], cs => cs = []
  | d :: ds, cs => ∃ v cs', cs = v :: cs' ∧ RD w Z d [v] ∧ RDs w Z ds cs'
def Rows (w : World) (Z : Nat → Prop) : List D → Nat → Nat → Nat → Prop
  | [], _, _, _ => True
  | x :: xs, b, o, sz => (∃ cs, cs.length = sz ∧ RD w Z x cs ∧ ∀ j v, cs[j]? = some v → w.cell? ⟨b, o + j, none⟩ = some v) ∧ Rows w Z xs b (o + sz) sz
end

mutual
/-- One cell of what is owned, with the blocks that are owned by it. -/
def OC (w : World) (Z : Nat → Prop) : D → Value → List Nat → Prop
  | .own sz xs, v, F => ∃ a c, (v = .slice a xs.length c ∧ c ≤ maxLen) ∧ ((c = 0 ∧ xs = [] ∧ F = []) ∨
      ∃ b vs F', a = some ⟨b, 0, none⟩ ∧ F = b :: F' ∧ w.heap[b]? = some (.cells vs sz.1 (0, 0)) ∧ c * sz.2 = vs.size ∧ 0 < sz.2 ∧ xs.length * sz.2 ≤ vs.size ∧ OEs w Z sz.2 xs vs.toList F')
  | .agg _, _, _ => False
  | .int k n, v, F => RD w Z (.int k n) [v] ∧ F = []
  | .bool b, v, F => RD w Z (.bool b) [v] ∧ F = []
  | .str s, v, F => RD w Z (.str s) [v] ∧ F = []
  | .lst xs, v, F => RD w Z (.lst xs) [v] ∧ F = []
def OCs (w : World) (Z : Nat → Prop) : List D → List Value → List Nat → Prop
  | [], vs, F => vs = [] ∧ F = []
  | d :: ds, vs, F => ∃ v vs' F1 F2, vs = v :: vs' ∧ F = F1 ++ F2 ∧ OC w Z d v F1 ∧ OCs w Z ds vs' F2
/-- One element. -/
def OE (w : World) (Z : Nat → Prop) : D → List Value → List Nat → Prop
  | .agg ds, vs, F => OCs w Z ds vs F
  | .own sz xs, vs, F => ∃ v, vs = [v] ∧ OC w Z (.own sz xs) v F
  | .int k n, vs, F => RD w Z (.int k n) vs ∧ F = []
  | .bool b, vs, F => RD w Z (.bool b) vs ∧ F = []
  | .str s, vs, F => RD w Z (.str s) vs ∧ F = []
  | .lst xs, vs, F => RD w Z (.lst xs) vs ∧ F = []
/-- Elements, each so many cells; what is behind the last does not matter. -/
def OEs (w : World) (Z : Nat → Prop) (n : Nat) : List D → List Value → List Nat → Prop
  | [], _, F => F = []
  | x :: xs, vs, F => ∃ F1 F2, n ≤ vs.length ∧ F = F1 ++ F2 ∧ OE w Z x (vs.take n) F1 ∧ OEs w Z n xs (vs.drop n) F2
end

def rngOff (g : Option (Int × Int)) : Nat := match g with | none => 0 | some (x, _) => x.toNat

/-- Where an object lies: its block, and the blocks that are owned by it. -/
structure Loc where
  main : Id → Option Nat
  nest : Id → Nat → Prop
instance : CoeFun Loc fun _ => Id → Option Nat := ⟨Loc.main⟩
def Loc.none : Loc := ⟨fun _ => Option.none, fun _ _ => False⟩

structure Cx where
  w : World
  Z : Nat → Prop
  L : Loc
  obj : Id → Option Obj

mutual
def RV (c : Cx) : AV → Value → Prop
  | .undef, _ => True
  | .bare, v => v = Go.undef
  | .d x, v => RD c.w c.Z x [v]
  | .agg as, v => ∃ vs : List Value, v = .agg vs.toArray ∧ RVs c as vs
  | .tup as, v => ∃ vs : List Value, v = .tuple vs.toArray ∧ RVs c as vs
  | .nilp, v => v = .pointer none
  | .emp, v => ∃ a, v = .slice a 0 0
  | .ptr r off, v => ∃ b, (c.obj r).isSome ∧ c.L r = some b ∧ v = .pointer (some ⟨b, off, none⟩)
  | .prow r sz i off, v => ∃ b, (c.obj r).isSome ∧ c.L r = some b ∧ 0 ≤ i ∧ v = .pointer (some ⟨b, i.toNat * sz.2 + off, none⟩)
  | .sp cs off, v => ∃ b o vs, v = .pointer (some ⟨b, o + off, none⟩) ∧ c.Z b ∧ RDs c.w c.Z cs vs ∧ ∀ j u, vs[j]? = some u → c.w.cell? ⟨b, o + j, none⟩ = some u
  | .arr r sz g full, v => ∃ a n cap xs, v = .slice a n cap ∧ (n ≤ cap ∧ cap ≤ maxLen) ∧ (full = true → cap = n) ∧ (c.obj r).bind Obj.rw = some (sz, xs) ∧ (g = none → n = xs.length) ∧
      (∀ x m, g = some (x, m) → 0 ≤ x ∧ m = n ∧ x.toNat + n ≤ xs.length) ∧
      (c.L r = none → cap = 0) ∧
      ∀ b, c.L r = some b → (cap = 0 ∧ rngOff g ≠ 0) ∨ (a = some ⟨b, rngOff g * sz.2, none⟩ ∧ (rngOff g + cap) * sz.2 = blkSize c.w b)
  | .fn f as, v => ∃ vs : List Value, v = .func (.func f) #[] vs.toArray ∧ RVs c as vs
def RVs (c : Cx) : List AV → List Value → Prop
  | [], vs => vs = []
  | a :: as, vs => ∃ v vs', vs = v :: vs' ∧ RV c a v ∧ RVs c as vs'
end

def RO (c : Cx) (r : Id) : Obj → Prop
  | .box as => ∃ b vs ty, c.L r = some b ∧ c.w.heap[b]? = some (.cells vs ty (0, 0)) ∧ RVs c as vs.toList
  | .rows sz xs => (c.L r = none → xs = []) ∧ ∀ b, c.L r = some b → ∃ vs, c.w.heap[b]? = some (.cells vs sz.1 (0, 0)) ∧ xs.length * sz.2 ≤ vs.size ∧ Rows c.w c.Z xs b 0 sz.2
  | .orows sz xs => (c.L r = none → xs = [] ∧ ∀ k, ¬ c.L.nest r k) ∧ ∀ b, c.L r = some b → ∃ vs F, c.w.heap[b]? = some (.cells vs sz.1 (0, 0)) ∧ xs.length * sz.2 ≤ vs.size ∧ OEs c.w c.Z sz.2 xs vs.toList F ∧ (b :: F).Nodup ∧ ∀ k, c.L.nest r k ↔ k ∈ F
  | .hrows sz xs i off q esz => ∃ b vs pre ys0 post A1 A2 B1 B2 v, c.L r = some b ∧ c.w.heap[b]? = some (.cells vs sz.1 (0, 0)) ∧ xs.length * sz.2 ≤ vs.size ∧ 0 ≤ i ∧ xs[i.toNat]? = some (.agg (pre ++ .own esz ys0 :: post)) ∧
      pre.length = off ∧ pre.length + 1 + post.length = sz.2 ∧ OEs c.w c.Z sz.2 (xs.take i.toNat) vs.toList A1 ∧ OCs c.w c.Z pre ((vs.toList.drop (i.toNat * sz.2)).take off) A2 ∧
      OCs c.w c.Z post ((vs.toList.drop (i.toNat * sz.2 + off + 1)).take (sz.2 - (off + 1))) B1 ∧ OEs c.w c.Z sz.2 (xs.drop (i.toNat + 1)) (vs.toList.drop ((i.toNat + 1) * sz.2)) B2 ∧
      vs[i.toNat * sz.2 + off]? = some v ∧ RV c (.arr q esz none false) v ∧ 0 < esz.2 ∧ (b :: (A1 ++ A2 ++ B1 ++ B2)).Nodup ∧ ∀ k, c.L.nest r k ↔ k ∈ A1 ++ A2 ++ B1 ++ B2
  | .gone sz xs => (c.L r = none → xs = []) ∧ ∀ b, c.L r = some b → ∃ vs, c.w.heap[b]? = some (.cells vs sz.1 (0, 0)) ∧ xs.length * sz.2 ≤ vs.size

/-! ### what stays -/

theorem cell_of_heap {w w' : World} {b o : Nat} (h : w'.heap[b]? = w.heap[b]?) : w'.cell? ⟨b, o, none⟩ = w.cell? ⟨b, o, none⟩ := by
  simp [World.cell?, h]

theorem blkSize_of_heap {w w' : World} {b : Nat} (h : w'.heap[b]? = w.heap[b]?) : blkSize w' b = blkSize w b := by
  simp [blkSize, h]

def ZLe (w w' : World) (Z Z' : Nat → Prop) : Prop := ∀ b, Z b → Z' b ∧ w'.heap[b]? = w.heap[b]?

theorem ZLe.refl (w : World) (Z : Nat → Prop) : ZLe w w Z Z := fun _ h => ⟨h, rfl⟩
theorem ZLe.trans {a b c : World} {X Y Z : Nat → Prop} (h : ZLe a b X Y) (k : ZLe b c Y Z) : ZLe a c X Z :=
  fun i hi => ⟨(k i (h i hi).1).1, (k i (h i hi).1).2.trans (h i hi).2⟩

mutual
theorem RD_mono {w w' : World} {Z Z' : Nat → Prop} (hz : ZLe w w' Z Z') : ∀ (x : D) (cs : List Value), RD w Z x cs → RD w' Z' x cs
  | .int k n, cs, h => by simpa only [RD] using h
  | .bool b, cs, h => by simpa only [RD] using h
  | .str s, cs, h => by simpa only [RD] using h
  | .agg ds, cs, h => by
    simp only [RD] at h ⊢
    exact RDs_mono hz ds cs h
  | .lst xs, cs, h => by
    simp only [RD] at h ⊢
    obtain ⟨a, c, h1, h2, h3⟩ := h
    refine ⟨a, c, h1, h2, ?_⟩
    rcases h3 with h3 | ⟨b, o, sz, h4, h5, h6⟩
    · exact .inl h3
    · exact .inr ⟨b, o, sz, h4, (hz b h5).1, Rows_mono hz (hz b h5).2 xs o sz h6⟩
  | .own sz xs, cs, h => by simpa only [RD] using h
theorem RDs_mono {w w' : World} {Z Z' : Nat → Prop} (hz : ZLe w w' Z Z') : ∀ (xs : List D) (cs : List Value), RDs w Z xs cs → RDs w' Z' xs cs
  | [], cs, h => by simpa only [RDs] using h
  | x :: xs, cs, h => by
    simp only [RDs] at h ⊢
    obtain ⟨v, cs', h1, h2, h3⟩ := h
    exact ⟨v, cs', h1, RD_mono hz x _ h2, RDs_mono hz xs _ h3⟩
theorem Rows_mono {w w' : World} {Z Z' : Nat → Prop} (hz : ZLe w w' Z Z') {b : Nat} (hb : w'.heap[b]? = w.heap[b]?) : ∀ (xs : List D) (o sz : Nat), Rows w Z xs b o sz → Rows w' Z' xs b o sz
  | [], o, sz, h => by simp only [Rows]
  | x :: xs, o, sz, h => by
    simp only [Rows] at h ⊢
    obtain ⟨⟨cs, h1, h2, h3⟩, h4⟩ := h
    exact ⟨⟨cs, h1, RD_mono hz x _ h2, fun j v hj => (cell_of_heap hb).trans (h3 j v hj)⟩, Rows_mono hz hb xs _ sz h4⟩
end

theorem RD_len {w : World} {Z : Nat → Prop} {x : D} {cs : List Value} (h : RD w Z x cs) : cs.length = x.cells.length := by
  have key : ∀ (ds : List D) (cs : List Value), RDs w Z ds cs → cs.length = ds.length := by
    intro ds
    induction ds with
    | nil => intro cs h; simp only [RDs] at h; simp [h]
    | cons d ds ih =>
      intro cs h
      simp only [RDs] at h
      obtain ⟨v, cs', rfl, _, h3⟩ := h
      simp [ih _ h3]
  cases x with
  | agg ds => simp only [RD] at h; simpa [D.cells] using key ds cs h
  | lst xs => simp only [RD] at h; obtain ⟨a, c, rfl, _⟩ := h; rfl
  | own sz xs => simp only [RD] at h; obtain ⟨a, n, c, rfl⟩ := h; rfl
  | _ => simp only [RD] at h; subst h; rfl

/-- Any data reads as its cells. -/
theorem RD_cells {w : World} {Z : Nat → Prop} {x : D} {cs : List Value} (h : RD w Z x cs) : RDs w Z x.cells cs := by
  cases x with
  | agg ds => simpa only [RD, D.cells] using h
  | lst xs => have h' := h; simp only [RD] at h; obtain ⟨a, c, rfl, _⟩ := h; simp only [D.cells, RDs]; exact ⟨_, _, rfl, h', rfl⟩
  | own sz xs => have h' := h; simp only [RD] at h; obtain ⟨a, n, c, rfl⟩ := h; simp only [D.cells, RDs]; exact ⟨_, _, rfl, h', rfl⟩
  | _ => have h' := h; simp only [RD] at h; subst h; simp only [D.cells, RDs]; exact ⟨_, _, rfl, h', rfl⟩

theorem RDs_iff {w : World} {Z : Nat → Prop} : ∀ {ds : List D} {cs : List Value}, RDs w Z ds cs ↔ ds.length = cs.length ∧ ∀ (i : Nat) (d : D) (v : Value), ds[i]? = some d → cs[i]? = some v → RD w Z d [v]
  | [], cs => by
    simp only [RDs]
    constructor
    · rintro rfl; simp
    · rintro ⟨h, _⟩; exact List.length_eq_zero_iff.1 h.symm
  | d :: ds, cs => by
    simp only [RDs]
    constructor
    · rintro ⟨v, cs', rfl, h1, h2⟩
      obtain ⟨h3, h4⟩ := RDs_iff.1 h2
      refine ⟨by simp [h3], ?_⟩
      intro i d' v' hd hv
      cases i with
      | zero => simp at hd hv; subst hd; subst hv; exact h1
      | succ i => simp at hd hv; exact h4 i d' v' hd hv
    · rintro ⟨h1, h2⟩
      cases cs with
      | nil => simp at h1
      | cons v cs' => exact ⟨v, cs', rfl, h2 0 d v rfl rfl, RDs_iff.2 ⟨by simpa using h1, fun i d' v' hd hv => h2 (i + 1) d' v' (by simpa using hd) (by simpa using hv)⟩⟩

theorem RVs_iff {c : Cx} : ∀ {as : List AV} {vs : List Value}, RVs c as vs ↔ as.length = vs.length ∧ ∀ (i : Nat) (a : AV) (v : Value), as[i]? = some a → vs[i]? = some v → RV c a v
  | [], vs => by
    simp only [RVs]
    constructor
    · rintro rfl; simp
    · rintro ⟨h, _⟩; exact List.length_eq_zero_iff.1 h.symm
  | d :: ds, cs => by
    simp only [RVs]
    constructor
    · rintro ⟨v, cs', rfl, h1, h2⟩
      obtain ⟨h3, h4⟩ := RVs_iff.1 h2
      refine ⟨by simp [h3], ?_⟩
      intro i d' v' hd hv
      cases i with
      | zero => simp at hd hv; subst hd; subst hv; exact h1
      | succ i => simp at hd hv; exact h4 i d' v' hd hv
    · rintro ⟨h1, h2⟩
      cases cs with
      | nil => simp at h1
      | cons v cs' => exact ⟨v, cs', rfl, h2 0 d v rfl rfl, RVs_iff.2 ⟨by simpa using h1, fun i d' v' hd hv => h2 (i + 1) d' v' (by simpa using hd) (by simpa using hv)⟩⟩

theorem Rows_iff {w : World} {Z : Nat → Prop} {b sz : Nat} : ∀ {xs : List D} {o : Nat}, Rows w Z xs b o sz ↔
    ∀ (i : Nat) (x : D), xs[i]? = some x → ∃ cs, cs.length = sz ∧ RD w Z x cs ∧ ∀ j v, cs[j]? = some v → w.cell? ⟨b, o + i * sz + j, none⟩ = some v
  | [], o => by simp [Rows]
  | x :: xs, o => by
    simp only [Rows]
    constructor
    · rintro ⟨h1, h2⟩ i y hy
      cases i with
      | zero => simp at hy; subst hy; simpa using h1
      | succ i =>
        simp at hy
        obtain ⟨cs, h3, h4, h5⟩ := Rows_iff.1 h2 i y hy
        refine ⟨cs, h3, h4, fun j v hj => ?_⟩
        rw [show o + (i + 1) * sz + j = o + sz + i * sz + j by rw [Nat.succ_mul]; omega]
        exact h5 j v hj
    · intro h
      refine ⟨by simpa using h 0 x rfl, Rows_iff.2 fun i y hy => ?_⟩
      obtain ⟨cs, h3, h4, h5⟩ := h (i + 1) y (by simpa using hy)
      refine ⟨cs, h3, h4, fun j v hj => ?_⟩
      rw [show o + sz + i * sz + j = o + (i + 1) * sz + j by rw [Nat.succ_mul]; omega]
      exact h5 j v hj

/-- What a name stood for it stands for still. -/
def Same (c c' : Cx) (r : Id) : Prop :=
  c'.L r = c.L r ∧ ((c.obj r).isSome → (c'.obj r).isSome) ∧ (∀ sz xs, (c.obj r).bind Obj.rw = some (sz, xs) → ∃ ys, (c'.obj r).bind Obj.rw = some (sz, ys) ∧ ys.length = xs.length) ∧
  ∀ b, c.L r = some b → (c.obj r).isSome → blkSize c'.w b = blkSize c.w b

mutual
theorem RV_mono {c c' : Cx} (hz : ZLe c.w c'.w c.Z c'.Z) : ∀ (a : AV) (v : Value), (∀ r ∈ a.refs, Same c c' r) → RV c a v → RV c' a v
  | .undef, v, _, h => by simp only [RV]
  | .bare, v, _, h => by simpa only [RV] using h
  | .d x, v, _, h => by simp only [RV] at h ⊢; exact RD_mono hz x _ h
  | .agg as, v, hr, h => by
    simp only [RV] at h ⊢
    obtain ⟨vs, h1, h2⟩ := h
    exact ⟨vs, h1, RVs_mono hz as vs (by simpa [AV.refs] using hr) h2⟩
  | .tup as, v, hr, h => by
    simp only [RV] at h ⊢
    obtain ⟨vs, h1, h2⟩ := h
    exact ⟨vs, h1, RVs_mono hz as vs (by simpa [AV.refs] using hr) h2⟩
  | .nilp, v, _, h => by simpa only [RV] using h
  | .emp, v, _, h => by simpa only [RV] using h
  | .ptr r off, v, hr, h => by
    simp only [RV] at h ⊢
    obtain ⟨b, h1, h2, h3⟩ := h
    obtain ⟨k1, k2, _, _⟩ := hr r (by simp [AV.refs])
    exact ⟨b, k2 h1, k1.trans h2, h3⟩
  | .prow r sz i off, v, hr, h => by
    simp only [RV] at h ⊢
    obtain ⟨b, h1, h2, h3⟩ := h
    obtain ⟨k1, k2, _, _⟩ := hr r (by simp [AV.refs])
    exact ⟨b, k2 h1, k1.trans h2, h3⟩
  | .sp cs off, v, _, h => by
    simp only [RV] at h ⊢
    obtain ⟨b, o, vs, h1, h2, h3, h4⟩ := h
    exact ⟨b, o, vs, h1, (hz b h2).1, RDs_mono hz cs vs h3, fun j u hj => (cell_of_heap (hz b h2).2).trans (h4 j u hj)⟩
  | .arr r sz g full, v, hr, h => by
    simp only [RV] at h ⊢
    obtain ⟨a, n, cap, xs, h1, h2, h3, h4, h5, h6, h7, h8⟩ := h
    obtain ⟨k1, _, k3, k4⟩ := hr r (by simp [AV.refs])
    obtain ⟨ys, k5, k6⟩ := k3 sz xs h4
    refine ⟨a, n, cap, ys, h1, h2, h3, k5, fun e => by rw [k6]; exact h5 e, fun x m e => by rw [k6]; exact h6 x m e, fun e => h7 (k1 ▸ e), fun b e => ?_⟩
    have e' := k1 ▸ e
    rcases h8 b e' with m | ⟨m1, m2⟩
    · exact .inl m
    · exact .inr ⟨m1, by rw [k4 b e' (by cases ho : c.obj r with | none => simp [ho] at h4 | some _ => rfl)]; exact m2⟩
  | .fn f as, v, hr, h => by
    simp only [RV] at h ⊢
    obtain ⟨vs, h1, h2⟩ := h
    exact ⟨vs, h1, RVs_mono hz as vs (by simpa [AV.refs] using hr) h2⟩
theorem RVs_mono {c c' : Cx} (hz : ZLe c.w c'.w c.Z c'.Z) : ∀ (as : List AV) (vs : List Value), (∀ r ∈ AV.refsL as, Same c c' r) → RVs c as vs → RVs c' as vs
  | [], vs, _, h => by simpa only [RVs] using h
  | a :: as, vs, hr, h => by
    simp only [RVs] at h ⊢
    obtain ⟨v, vs', h1, h2, h3⟩ := h
    exact ⟨v, vs', h1, RV_mono hz a v (fun r hm => hr r (by simp [AV.refsL, hm])) h2, RVs_mono hz as vs' (fun r hm => hr r (by simp [AV.refsL, hm])) h3⟩
end

/-! ### what is owned -/

mutual
theorem OC_mono {w w' : World} {Z Z' : Nat → Prop} (hz : ZLe w w' Z Z') : ∀ (x : D) (v : Value) (F : List Nat), (∀ k ∈ F, w'.heap[k]? = w.heap[k]?) → OC w Z x v F → OC w' Z' x v F
  | .own sz xs, v, F, hf, h => by
    simp only [OC] at h ⊢
    obtain ⟨a, c, h1, h2⟩ := h
    refine ⟨a, c, h1, h2.imp id ?_⟩
    rintro ⟨b, vs, F', e1, rfl, e3, e4, e5, e6, e7⟩
    exact ⟨b, vs, F', e1, rfl, (hf b (by simp)).trans e3, e4, e5, e6, OEs_mono hz sz.2 xs vs.toList F' (fun k hk => hf k (by simp [hk])) e7⟩
  | .agg _, _, _, _, h => by simp [OC] at h
  | .int k n, v, F, _, h => by simp only [OC] at h ⊢; exact ⟨RD_mono hz _ _ h.1, h.2⟩
  | .bool b, v, F, _, h => by simp only [OC] at h ⊢; exact ⟨RD_mono hz _ _ h.1, h.2⟩
  | .str s, v, F, _, h => by simp only [OC] at h ⊢; exact ⟨RD_mono hz _ _ h.1, h.2⟩
  | .lst xs, v, F, _, h => by simp only [OC] at h ⊢; exact ⟨RD_mono hz _ _ h.1, h.2⟩
theorem OCs_mono {w w' : World} {Z Z' : Nat → Prop} (hz : ZLe w w' Z Z') : ∀ (xs : List D) (vs : List Value) (F : List Nat), (∀ k ∈ F, w'.heap[k]? = w.heap[k]?) → OCs w Z xs vs F → OCs w' Z' xs vs F
  | [], vs, F, _, h => by simpa only [OCs] using h
  | d :: ds, vs, F, hf, h => by
    simp only [OCs] at h ⊢
    obtain ⟨v, vs', F1, F2, h1, rfl, h2, h3⟩ := h
    exact ⟨v, vs', F1, F2, h1, rfl, OC_mono hz d v F1 (fun k hk => hf k (by simp [hk])) h2, OCs_mono hz ds vs' F2 (fun k hk => hf k (by simp [hk])) h3⟩
theorem OE_mono {w w' : World} {Z Z' : Nat → Prop} (hz : ZLe w w' Z Z') : ∀ (x : D) (vs : List Value) (F : List Nat), (∀ k ∈ F, w'.heap[k]? = w.heap[k]?) → OE w Z x vs F → OE w' Z' x vs F
  | .agg ds, vs, F, hf, h => by simp only [OE] at h ⊢; exact OCs_mono hz ds vs F hf h
  | .own sz xs, vs, F, hf, h => by
    simp only [OE] at h ⊢
    obtain ⟨v, h1, h2⟩ := h
    exact ⟨v, h1, OC_mono hz (.own sz xs) v F hf h2⟩
  | .int k n, vs, F, _, h => by simp only [OE] at h ⊢; exact ⟨RD_mono hz _ _ h.1, h.2⟩
  | .bool b, vs, F, _, h => by simp only [OE] at h ⊢; exact ⟨RD_mono hz _ _ h.1, h.2⟩
  | .str s, vs, F, _, h => by simp only [OE] at h ⊢; exact ⟨RD_mono hz _ _ h.1, h.2⟩
  | .lst xs, vs, F, _, h => by simp only [OE] at h ⊢; exact ⟨RD_mono hz _ _ h.1, h.2⟩
theorem OEs_mono {w w' : World} {Z Z' : Nat → Prop} (hz : ZLe w w' Z Z') (n : Nat) : ∀ (xs : List D) (vs : List Value) (F : List Nat), (∀ k ∈ F, w'.heap[k]? = w.heap[k]?) → OEs w Z n xs vs F → OEs w' Z' n xs vs F
  | [], vs, F, _, h => by simpa only [OEs] using h
  | x :: xs, vs, F, hf, h => by
    simp only [OEs] at h ⊢
    obtain ⟨F1, F2, h1, rfl, h2, h3⟩ := h
    exact ⟨F1, F2, h1, rfl, OE_mono hz x _ F1 (fun k hk => hf k (by simp [hk])) h2, OEs_mono hz n xs _ F2 (fun k hk => hf k (by simp [hk])) h3⟩
end

theorem Obj.rw_forget {p : Id → Bool} (o : Obj) : (o.forget p).rw = o.rw := by
  cases o <;> first
    | rfl
    | (simp only [Obj.forget]; split <;> rfl)
theorem Obj.rw_map {f : Id → Id} (o : Obj) : (o.map f).rw = o.rw := by cases o <;> rfl
theorem Obj.deep_map {f : Id → Id} (o : Obj) : (o.map f).deep = o.deep := by cases o <;> rfl
/-- The blocks of an object. -/
def Obj.has (o : Obj) (L : Loc) (r : Id) (b : Nat) : Prop := L r = some b ∨ (o.deep = true ∧ L.nest r b)
theorem Obj.has_forget {p : Id → Bool} {o : Obj} {L : Loc} {r : Id} {b : Nat} (h : (o.forget p).has L r b) : o.has L r b := by
  rcases h with h | ⟨h1, h2⟩
  · exact .inl h
  · refine .inr ⟨?_, h2⟩
    cases o <;> first
      | exact h1
      | (simp only [Obj.forget] at h1; split at h1 <;> first | rfl | cases h1)

end Go.Vi
