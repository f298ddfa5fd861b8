/- The real numbers and texts; slices' elements; what is handed on as data; reading and writing. -/
import Derived.Test.YtdkaahhcejipjaaVi3
import Derived.Laws.AppendOwn
import Derived.Laws.Cells
set_option linter.unusedVariables false
set_option linter.unusedSimpArgs false
namespace Go.Vi
open Go Go.RowKit

def arI (op : BinOp) (k : IntKind) (a b : Int) : Int :=
  match op with
  | .add => k.wrap (a + b)
  | .sub => k.wrap (a - b)
  | .mul => k.wrap (a * b)
  | .quo => k.wrap (a.tdiv b)
  | .rem => a.tmod b
  | .and => k.wrap (BitVec.ofInt k.bits a &&& BitVec.ofInt k.bits b).toNat
  | .or => k.wrap (BitVec.ofInt k.bits a ||| BitVec.ofInt k.bits b).toNat
  | .xor => k.wrap (BitVec.ofInt k.bits a ^^^ BitVec.ofInt k.bits b).toNat
  | .shl => k.wrap (a * 2 ^ (min b.toNat k.bits))
  | .shr => a.fdiv (2 ^ (min b.toNat k.bits))
  | _ => 0
def cmpI (op : BinOp) (a b : Int) : Bool :=
  match op with
  | .eql => a == b
  | .neq => a != b
  | .lss => decide (a < b)
  | .leq => decide (a ≤ b)
  | .gtr => decide (a > b)
  | .geq => decide (a ≥ b)
  | _ => false
def sCmpI (op : BinOp) (x y : ByteArray) : Bool :=
  match op with
  | .eql => x.toList == y.toList
  | .neq => !(x.toList == y.toList)
  | .lss => Op.bytesLess x.toList y.toList
  | .leq => Op.bytesLess x.toList y.toList || x.toList == y.toList
  | .gtr => !(Op.bytesLess x.toList y.toList || x.toList == y.toList)
  | .geq => !(Op.bytesLess x.toList y.toList)
  | _ => false
def ofBytesI : List D → Option (List UInt8)
  | [] => some []
  | .int .u8 n :: l => match ofBytesI l with
    | some bs => some (UInt8.ofNat n.toNat :: bs)
    | none => none
  | _ => none
def subI (xs : List D) (a n : Int) : Option (List D) := if 0 ≤ a ∧ 0 ≤ n ∧ a + n ≤ xs.length then some ((xs.drop a.toNat).take n.toNat) else none
def eltI (xs : List D) (i : Int) : Option D := if 0 ≤ i then xs[i.toNat]? else none

def real (call : FuncId → List AV → List (Option Obj) → Option CRes) (loop : Nat → St → Option (Out × St)) : Ora :=
  .mk call loop arI (fun k n => k.wrap n) (fun a b => a + b) (fun a b => a - b) cmpI (fun a => decide (a = 0)) sCmpI (fun a b => a ++ b) (fun a b => decide (((a.size + b.size : Nat) : Int) ≤ IntKind.i64.max))
    (fun s => s.size) (fun s i => if 0 ≤ i then (s[i.toNat]?).map fun b => (b.toNat : Int) else none)
    (fun s l h => if 0 ≤ l ∧ l ≤ h ∧ h ≤ s.size then some (s.extract l.toNat h.toNat) else none)
    (fun s => s.data.toList.map fun b => .int .u8 b.toNat) (fun l => (ofBytesI l).map fun bs => ⟨bs.toArray⟩)
    (fun xs => xs.length) eltI subI (fun xs ys => xs ++ ys) (fun xs i x => xs.set i.toNat x) (fun n x => List.replicate n.toNat x)
    (fun z b xs => decide (xs.length * b ≤ 140737488355328 ∧ xs.length ≤ maxLen) && xs.all fun x => x.cells.length == z) (fun b n => decide (0 ≤ n ∧ n * b ≤ 140737488355328 ∧ n ≤ 9223372036854775807))
    (fun xs ys => ys.take xs.length ++ xs.drop ys.length)

variable {P : Program} {call : FuncId → List AV → List (Option Obj) → Option CRes} {loop : Nat → St → Option (Out × St)}

theorem Rows_drop {w : World} {Z : Nat → Prop} {b sz : Nat} : ∀ {xs : List D} {o : Nat} (k : Nat), Rows w Z xs b o sz → Rows w Z (xs.drop k) b (o + k * sz) sz := by
  intro xs o k h
  rw [Rows_iff] at h ⊢
  intro i x hx
  rw [List.getElem?_drop] at hx
  obtain ⟨cs, h1, h2, h3⟩ := h (k + i) x hx
  refine ⟨cs, h1, h2, fun j v hj => ?_⟩
  rw [show o + k * sz + i * sz + j = o + (k + i) * sz + j by rw [Nat.add_mul]; omega]
  exact h3 j v hj

theorem Rows_take {w : World} {Z : Nat → Prop} {b sz : Nat} : ∀ {xs : List D} {o : Nat} (k : Nat), Rows w Z xs b o sz → Rows w Z (xs.take k) b o sz := by
  intro xs o k h
  rw [Rows_iff] at h ⊢
  intro i x hx
  rw [List.getElem?_take] at hx
  split at hx
  · exact h i x hx
  · cases hx

/-- The elements of a slice, as memory holds them. -/
theorem content_sound {s : Sto} {w : World} {L : Id → Option Nat} {Z : Nat → Prop} {x : AV} {v : Value} {xs : List D}
    (hobj : ∀ r ob, s.get r = some ob → RO (cxOf w Z L s) r ob) (hv : RV (cxOf w Z L s) x v) (h : content (real call loop) s x = some xs) :
    ∃ A cap, v = .slice A xs.length cap ∧ xs.length ≤ cap ∧ (xs = [] ∨ ∃ b o sz, A = some ⟨b, o, none⟩ ∧ Rows w Z xs b o sz ∧ (Z b ∨ ∃ r z g u ob, x = .arr r z g u ∧ s.get r = some ob ∧ L r = some b)) := by
  cases x with
  | d y =>
    cases y with
    | lst ys =>
      simp only [content] at h
      injection h with h
      subst h
      simp only [RV, RD] at hv
      obtain ⟨a, c, h1, h2, h3⟩ := hv
      injection h1 with h1
      refine ⟨a, c, h1, h2, h3.imp id ?_⟩
      rintro ⟨b, o, sz, h4, h5, h6⟩
      exact ⟨b, o, sz, h4, h6, .inl h5⟩
    | _ => simp [content] at h
  | emp =>
    simp only [content] at h
    injection h with h
    subst h
    simp only [RV] at hv
    obtain ⟨a, h1⟩ := hv
    exact ⟨a, 0, h1, Nat.le_refl _, .inl rfl⟩
  | arr r sz g u =>
    simp only [RV] at hv
    obtain ⟨a, n, cap, ys, h1, ⟨h2, _⟩, _, h4, h5, h6, h7, h8⟩ := hv
    have h4' : s.get r = some (.rows sz ys) := h4
    have hro := hobj r _ h4'
    simp only [RO] at hro
    simp only [content, h4'] at h
    cases hL : L r with
    | none =>
      have hy : ys = [] := hro.1 hL
      have hc : cap = 0 := h7 hL
      have hn : n = 0 := by omega
      have hx : xs = [] := by
        cases g with
        | none => simp only at h; injection h with h; rw [← h]; exact hy
        | some p =>
          obtain ⟨x, m⟩ := p
          simp only [real, Ora.sub, subI] at h
          split at h
          · injection h with h; rw [← h, hy]; simp
          · cases h
      subst hx
      exact ⟨a, cap, by rw [h1, hn]; rfl, by simp, .inl rfl⟩
    | some b =>
      obtain ⟨vs, h9, h10, h11⟩ := hro.2 b hL
      have hlv : ∃ r' z g' u' ob, AV.arr r sz g u = .arr r' z g' u' ∧ s.get r' = some ob ∧ L r' = some b := ⟨r, sz, g, u, _, rfl, h4', hL⟩
      cases g with
      | none =>
        simp only at h
        injection h with h
        subst h
        refine ⟨a, cap, by rw [h1, h5 rfl], by rw [← h5 rfl]; exact h2, .inr ?_⟩
        rcases h8 b hL with ⟨_, k2⟩ | ⟨k1, _⟩
        · exact (k2 rfl).elim
        · exact ⟨b, 0, sz.2, by simpa [rngOff] using k1, h11, .inr hlv⟩
      | some p =>
        obtain ⟨x, m⟩ := p
        obtain ⟨k1, k2, k3⟩ := h6 x m rfl
        simp only [real, Ora.sub, subI] at h
        split at h
        case isFalse => cases h
        case isTrue hc =>
          injection h with h
          have hlen : xs.length = n := by
            rw [← h, List.length_take, List.length_drop]
            subst k2
            omega
          refine ⟨a, cap, by rw [h1, hlen], by rw [hlen]; exact h2, ?_⟩
          rcases h8 b hL with ⟨m1, _⟩ | ⟨m1, _⟩
          · left
            apply List.eq_nil_of_length_eq_zero
            omega
          · refine .inr ⟨b, rngOff (some (x, m)) * sz.2, sz.2, m1, ?_, .inr hlv⟩
            rw [← h]
            have := Rows_take m.toNat (Rows_drop x.toNat h11)
            simpa [rngOff] using this
  | _ => simp [content] at h

def Kept (w : World) (L : Id → Option Nat) (Z0 Z : Nat → Prop) (s0 s : Sto) : Prop :=
  (∀ b, Z0 b → Z b) ∧ ∀ q, (s.get q).isSome → (s0.get q).isSome ∧ Same (cxOf w Z0 L s0) (cxOf w Z L s) q

theorem Kept.refl (w : World) (L : Id → Option Nat) (Z : Nat → Prop) (s : Sto) : Kept w L Z Z s s :=
  ⟨fun _ h => h, fun _ hq => ⟨hq, rfl, fun k => k, fun _ xs k => ⟨xs, k, rfl⟩, fun _ _ _ => rfl⟩⟩

theorem Kept.kill {w : World} {L : Id → Option Nat} {Z0 Z Z' : Nat → Prop} {s0 : Sto} {s : St} (h : Kept w L Z0 Z s0 s.sto) (r : Id) (hz : ∀ b, Z b → Z' b) : Kept w L Z0 Z' s0 (s.kill r).sto := by
  refine ⟨fun b hb => hz b (h.1 b hb), fun q hq => ?_⟩
  have hne : q ≠ r := fun e => by rw [kill_get, if_pos e] at hq; cases hq
  have hq' : (s.sto.get q).isSome := by rw [kill_get, if_neg hne] at hq; simpa using hq
  obtain ⟨k0, k1, k2, k3, k4⟩ := h.2 q hq'
  obtain ⟨m1, m2, m3, m4⟩ := kill_same (s := s) (w := w) (L := L) (Z := Z) (Z' := Z') hne
  refine ⟨k0, m1.trans k1, fun k => m2 (k2 k), fun sz xs k => ?_, fun b hb hs => rfl⟩
  obtain ⟨ys, n1, n2⟩ := k3 sz xs k
  obtain ⟨zs, n3, n4⟩ := m3 sz ys n1
  exact ⟨zs, n3, n4.trans n2⟩

theorem Kept.rv {w : World} {L : Id → Option Nat} {Z0 Z : Nat → Prop} {s0 s : Sto} (h : Kept w L Z0 Z s0 s) {x : AV} {v : Value} (hr : ∀ r ∈ x.refs, (s.get r).isSome) (hv : RV (cxOf w Z0 L s0) x v) : RV (cxOf w Z L s) x v :=
  RV_mono (c := cxOf w Z0 L s0) (c' := cxOf w Z L s) (fun b hb => ⟨h.1 b hb, rfl⟩) x v (fun r hm => (h.2 r (hr r hm)).2) hv

/-- A value that means something as soon as its names do. -/
def RVw (c : Cx) (x : AV) (v : Value) : Prop := (∀ r ∈ x.refs, (c.obj r).isSome) → RV c x v
def RVsw (c : Cx) (xs : List AV) (vs : List Value) : Prop := (∀ r ∈ AV.refsL xs, (c.obj r).isSome) → RVs c xs vs

theorem Kept.trans {w : World} {L : Id → Option Nat} {Z0 Z1 Z2 : Nat → Prop} {s0 s1 s2 : Sto} (h : Kept w L Z0 Z1 s0 s1) (k : Kept w L Z1 Z2 s1 s2) : Kept w L Z0 Z2 s0 s2 := by
  refine ⟨fun b hb => k.1 b (h.1 b hb), fun q hq => ?_⟩
  obtain ⟨a1, a2, a3, a4, a5⟩ := k.2 q hq
  obtain ⟨b1, b2, b3, b4, b5⟩ := h.2 q a1
  refine ⟨b1, a2.trans b2, fun m => a3 (b3 m), fun sz xs m => ?_, fun _ _ _ => rfl⟩
  obtain ⟨ys, n1, n2⟩ := b4 sz xs m
  obtain ⟨zs, n3, n4⟩ := a4 sz ys n1
  exact ⟨zs, n3, n4.trans n2⟩

mutual
theorem fz_sound {a : Act} {w : World} {L : Id → Option Nat} {Z0 : Nat → Prop} {s0 : Sto} (np : Nat) : ∀ (x : AV) (v : Value) (s s' : St) (x' : AV) (Z : Nat → Prop), RS s a w L Z → Kept w L Z0 Z s0 s.sto → RV (cxOf w Z0 L s0) x v →
    fz (real call loop) s x = some (x', s') → ∃ Z', RS s' a w L Z' ∧ Tr np s.sto s'.sto w w L L Z Z' ∧ Kept w L Z Z' s.sto s'.sto ∧ RVw (cxOf w Z' L s'.sto) x' v
  | .emp, v, s, s', x', Z, h, hk, hv, e => by
    simp only [fz] at e; injection e with e; injection e with e1 e2; subst e1; subst e2
    refine ⟨Z, h, Tr.refl _ _ _ _ _, Kept.refl _ _ _ _, fun _ => ?_⟩
    simp only [RV] at hv; obtain ⟨A, h1⟩ := hv
    simp only [RV, RD]
    exact ⟨A, 0, by rw [h1]; rfl, Nat.le_refl _, .inl trivial⟩
  | .arr r sz g u, v, s, s', x', Z, h, hk, hv, e => by
    simp only [fz] at e
    split at e
    case h_2 => cases e
    case h_1 xs hc =>
      injection e with e; injection e with e1 e2; subst e1; subst e2
      have hlive : (s.sto.get r).isSome := by
        simp only [content] at hc
        split at hc
        · rename_i hr; simp [hr]
        · cases hc
      obtain ⟨ob, hob⟩ := Option.isSome_iff_exists.1 hlive
      have hv' := hk.rv (x := .arr r sz g u) (by intro q hq; simp [AV.refs] at hq; subst hq; exact hlive) hv
      obtain ⟨A, cap, h1, h2, h3⟩ := content_sound h.obj hv' hc
      obtain ⟨k1, k2⟩ := h.killZ hob np
      refine ⟨_, k1, k2, Kept.kill (Kept.refl _ _ _ _) r (fun b hb => .inl hb), fun _ => ?_⟩
      simp only [RV, RD]
      refine ⟨A, cap, by rw [h1], h2, h3.imp id ?_⟩
      rintro ⟨b, o, z, h4, h5, h6⟩
      refine ⟨b, o, z, h4, ?_, Rows_mono (w := w) (w' := w) (Z := Z) (fun b hb => ⟨.inl hb, rfl⟩) rfl _ _ _ h5⟩
      rcases h6 with h6 | ⟨r', z', g', u', ob', e1, e2, e3⟩
      · exact .inl h6
      · injection e1 with e1; subst e1; exact .inr e3
  | .agg cs, v, s, s', x', Z, h, hk, hv, e => by
    simp only [fz] at e
    split at e
    case h_2 => cases e
    case h_1 ds s2 hc =>
      injection e with e; injection e with e1 e2; subst e1; subst e2
      simp only [RV] at hv
      obtain ⟨vs, h1, h2⟩ := hv
      obtain ⟨Z', k1, k2, k3, k4⟩ := fzL_sound np cs vs s _ _ Z h hk h2 hc
      refine ⟨Z', k1, k2, k3, fun hr => ?_⟩
      simp only [RV]
      exact ⟨vs, h1, k4 (by simpa [AV.refs] using hr)⟩
  | .tup cs, v, s, s', x', Z, h, hk, hv, e => by
    simp only [fz] at e
    split at e
    case h_2 => cases e
    case h_1 ds s2 hc =>
      injection e with e; injection e with e1 e2; subst e1; subst e2
      simp only [RV] at hv
      obtain ⟨vs, h1, h2⟩ := hv
      obtain ⟨Z', k1, k2, k3, k4⟩ := fzL_sound np cs vs s _ _ Z h hk h2 hc
      refine ⟨Z', k1, k2, k3, fun hr => ?_⟩
      simp only [RV]
      exact ⟨vs, h1, k4 (by simpa [AV.refs] using hr)⟩
  | .undef, v, s, s', x', Z, h, hk, hv, e => by
    simp only [fz] at e; injection e with e; injection e with e1 e2; subst e1; subst e2
    exact ⟨Z, h, Tr.refl _ _ _ _ _, Kept.refl _ _ _ _, fun hr => hk.rv hr hv⟩
  | .bare, v, s, s', x', Z, h, hk, hv, e => by
    simp only [fz] at e; injection e with e; injection e with e1 e2; subst e1; subst e2
    exact ⟨Z, h, Tr.refl _ _ _ _ _, Kept.refl _ _ _ _, fun hr => hk.rv hr hv⟩
  | .d y, v, s, s', x', Z, h, hk, hv, e => by
    simp only [fz] at e; injection e with e; injection e with e1 e2; subst e1; subst e2
    exact ⟨Z, h, Tr.refl _ _ _ _ _, Kept.refl _ _ _ _, fun hr => hk.rv hr hv⟩
  | .nilp, v, s, s', x', Z, h, hk, hv, e => by
    simp only [fz] at e; injection e with e; injection e with e1 e2; subst e1; subst e2
    exact ⟨Z, h, Tr.refl _ _ _ _ _, Kept.refl _ _ _ _, fun hr => hk.rv hr hv⟩
  | .ptr _ _, v, s, s', x', Z, h, hk, hv, e => by
    simp only [fz] at e; injection e with e; injection e with e1 e2; subst e1; subst e2
    exact ⟨Z, h, Tr.refl _ _ _ _ _, Kept.refl _ _ _ _, fun hr => hk.rv hr hv⟩
  | .prow _ _ _ _, v, s, s', x', Z, h, hk, hv, e => by
    simp only [fz] at e; injection e with e; injection e with e1 e2; subst e1; subst e2
    exact ⟨Z, h, Tr.refl _ _ _ _ _, Kept.refl _ _ _ _, fun hr => hk.rv hr hv⟩
  | .sp _ _, v, s, s', x', Z, h, hk, hv, e => by
    simp only [fz] at e; injection e with e; injection e with e1 e2; subst e1; subst e2
    exact ⟨Z, h, Tr.refl _ _ _ _ _, Kept.refl _ _ _ _, fun hr => hk.rv hr hv⟩
  | .fn _ _, v, s, s', x', Z, h, hk, hv, e => by
    simp only [fz] at e; injection e with e; injection e with e1 e2; subst e1; subst e2
    exact ⟨Z, h, Tr.refl _ _ _ _ _, Kept.refl _ _ _ _, fun hr => hk.rv hr hv⟩
theorem fzL_sound {a : Act} {w : World} {L : Id → Option Nat} {Z0 : Nat → Prop} {s0 : Sto} (np : Nat) : ∀ (xs : List AV) (vs : List Value) (s s' : St) (xs' : List AV) (Z : Nat → Prop), RS s a w L Z → Kept w L Z0 Z s0 s.sto → RVs (cxOf w Z0 L s0) xs vs →
    fzL (real call loop) s xs = some (xs', s') → ∃ Z', RS s' a w L Z' ∧ Tr np s.sto s'.sto w w L L Z Z' ∧ Kept w L Z Z' s.sto s'.sto ∧ RVsw (cxOf w Z' L s'.sto) xs' vs
  | [], vs, s, s', xs', Z, h, hk, hv, e => by
    simp only [fzL] at e; injection e with e; injection e with e1 e2; subst e1; subst e2
    refine ⟨Z, h, Tr.refl _ _ _ _ _, Kept.refl _ _ _ _, fun _ => by simpa only [RVs] using hv⟩
  | x :: xs, vs, s, s', xs', Z, h, hk, hv, e => by
    simp only [fzL] at e
    split at e
    case h_2 => cases e
    case h_1 y s2 hc =>
      split at e
      case h_2 => cases e
      case h_1 ys s3 hc2 =>
        injection e with e; injection e with e1 e2; subst e1; subst e2
        simp only [RVs] at hv
        obtain ⟨v, vs', h1, h2, h3⟩ := hv
        obtain ⟨Z1, k1, k2, k3, k4⟩ := fz_sound np x v s s2 y Z h hk h2 hc
        obtain ⟨Z2, m1, m2, m3, m4⟩ := fzL_sound np xs vs' s2 s3 ys Z1 k1 (hk.trans k3) h3 hc2
        refine ⟨Z2, m1, k2.trans m2, k3.trans m3, fun hr => ?_⟩
        simp only [RVs]
        simp only [AV.refsL, List.mem_append] at hr
        refine ⟨v, vs', h1, ?_, m4 fun r hm => hr r (.inr hm)⟩
        exact m3.rv (fun r hm => hr r (.inl hm)) (k4 fun r hm => (m3.2 r (hr r (.inl hm))).1)
end

end Go.Vi
