/- The state of a run, and what a step may turn. -/
import Derived.Test.YtdkaahhcejipjaaOVi1
set_option linter.unusedVariables false
set_option linter.unusedSimpArgs false
set_option linter.unnecessarySimpa false
set_option linter.unusedSectionVars false
namespace Go.Vi
open Go Go.RowKit

def Lives (s : Sto) (L : Loc) (b : Nat) : Prop := ∃ r ob, s.get r = some ob ∧ ob.has L r b

structure RS (s : St) (a : Act) (w : World) (L : Loc) (Z : Nat → Prop) : Prop where
  defers : a.defers = []
  env : RVs ⟨w, Z, L, s.sto.get⟩ s.env a.tmps.toList
  obj : ∀ r ob, s.sto.get r = some ob → RO ⟨w, Z, L, s.sto.get⟩ r ob
  injH : ∀ r r' b ob ob', s.sto.get r = some ob → s.sto.get r' = some ob' → ob.has L r b → ob'.has L r' b → r = r'
  dis : ∀ b, Z b → b < w.heap.size ∧ ¬ Lives s.sto L b

theorem RS.inj {s : St} {a : Act} {w : World} {L : Loc} {Z : Nat → Prop} (h : RS s a w L Z) (r r' : Id) (b : Nat) (h1 : (s.sto.get r).isSome) (h2 : (s.sto.get r').isSome) (h3 : L r = some b) (h4 : L r' = some b) : r = r' := by
  obtain ⟨o, ho⟩ := Option.isSome_iff_exists.1 h1
  obtain ⟨o', ho'⟩ := Option.isSome_iff_exists.1 h2
  exact h.injH r r' b o o' ho ho' (.inl h3) (.inl h4)

/-- From one state to a later one. -/
structure Tr (np : Nat) (s s' : Sto) (w w' : World) (L L' : Loc) (Z Z' : Nat → Prop) : Prop where
  os : w'.os = w.os
  tape : w'.tape = w.tape
  output : w'.output = w.output
  size : w.heap.size ≤ w'.heap.size
  keep : ∀ b, b < w.heap.size → ¬ Lives s L b → w'.heap[b]? = w.heap[b]?
  lives : ∀ b, Lives s' L' b → Lives s L b ∨ w.heap.size ≤ b
  zin : ∀ b, Z b → Z' b
  zout : ∀ b, Z' b → Z b ∨ w.heap.size ≤ b ∨ Lives s L b
  par : ∀ r : Id, np ≤ r.1 → L' r = L r
  psame : ∀ r : Id, np ≤ r.1 → (s'.get r).isSome → (s.get r).isSome ∧ Same ⟨w, Z, L, s.get⟩ ⟨w', Z', L', s'.get⟩ r

theorem Same.refl (c : Cx) (r : Id) : Same c c r := ⟨rfl, fun h => h, fun _ xs h => ⟨xs, h, rfl⟩, fun _ _ _ => rfl⟩
theorem Same.trans {a b c : Cx} {r : Id} (h : Same a b r) (k : Same b c r) : Same a c r := by
  obtain ⟨h1, h2, h3, h4⟩ := h
  obtain ⟨k1, k2, k3, k4⟩ := k
  refine ⟨k1.trans h1, fun x => k2 (h2 x), fun sz xs x => ?_, fun b hb hs => ?_⟩
  · obtain ⟨ys, y1, y2⟩ := h3 sz xs x
    obtain ⟨zs, z1, z2⟩ := k3 sz ys y1
    exact ⟨zs, z1, z2.trans y2⟩
  · exact (k4 b (h1.trans hb) (h2 hs)).trans (h4 b hb hs)

theorem Tr.refl (np : Nat) (s : Sto) (w : World) (L : Loc) (Z : Nat → Prop) : Tr np s s w w L L Z Z :=
  ⟨rfl, rfl, rfl, Nat.le_refl _, fun _ _ _ => rfl, fun _ h => .inl h, fun _ h => h, fun _ h => .inl h, fun _ _ => rfl, fun _ _ h => ⟨h, Same.refl _ _⟩⟩

theorem Tr.trans {np : Nat} {s1 s2 s3 : Sto} {w1 w2 w3 : World} {L1 L2 L3 : Loc} {Z1 Z2 Z3 : Nat → Prop}
    (h : Tr np s1 s2 w1 w2 L1 L2 Z1 Z2) (k : Tr np s2 s3 w2 w3 L2 L3 Z2 Z3) : Tr np s1 s3 w1 w3 L1 L3 Z1 Z3 where
  os := k.os.trans h.os
  tape := k.tape.trans h.tape
  output := k.output.trans h.output
  size := Nat.le_trans h.size k.size
  keep b hb hn := by
    have h2 : ¬ Lives s2 L2 b := fun hl => by
      rcases h.lives b hl with h3 | h3
      · exact hn h3
      · omega
    exact (k.keep b (Nat.lt_of_lt_of_le hb h.size) h2).trans (h.keep b hb hn)
  lives b hl := by
    rcases k.lives b hl with h1 | h1
    · exact h.lives b h1
    · exact .inr (Nat.le_trans h.size h1)
  zin b hz := k.zin b (h.zin b hz)
  zout b hz := by
    rcases k.zout b hz with h1 | h1 | h1
    · exact h.zout b h1
    · exact .inr (.inl (Nat.le_trans h.size h1))
    · rcases h.lives b h1 with h2 | h2
      · exact .inr (.inr h2)
      · exact .inr (.inl h2)
  par r hr := (k.par r hr).trans (h.par r hr)
  psame r hr hs := by
    obtain ⟨k1, k2⟩ := k.psame r hr hs
    obtain ⟨h1, h2⟩ := h.psame r hr k1
    exact ⟨h1, h2.trans k2⟩

theorem RS.zle {s : St} {a : Act} {w w' : World} {L L' : Loc} {Z Z' : Nat → Prop} {np : Nat} {s' : Sto}
    (h : RS s a w L Z) (t : Tr np s.sto s' w w' L L' Z Z') : ZLe w w' Z Z' :=
  fun b hb => ⟨t.zin b hb, t.keep b (h.dis b hb).1 (h.dis b hb).2⟩

/-! ### the store -/

theorem get_put_same {s : Sto} {r : Id} {ob : Obj} (o : Option Obj) (h : s.get r = some ob) : (s.put r o).get r = o := by
  unfold Sto.get at h
  split at h
  case h_1 l hl =>
    split at h
    case h_1 o' ho =>
      have h1 : r.1 < s.length := (List.getElem?_eq_some_iff.1 hl).1
      have h2 : r.2 < l.length := (List.getElem?_eq_some_iff.1 ho).1
      unfold Sto.put
      rw [hl]
      unfold Sto.get
      dsimp only
      rw [List.getElem?_set_self h1]
      dsimp only
      rw [List.getElem?_set_self h2]
    case h_2 => cases h
  case h_2 => cases h

theorem get_put_ne {s : Sto} {r r' : Id} (o : Option Obj) (h : r' ≠ r) : (s.put r o).get r' = s.get r' := by
  unfold Sto.put
  split
  case h_1 l hl =>
    unfold Sto.get
    by_cases h1 : r'.1 = r.1
    · have h2 : r'.2 ≠ r.2 := fun e => h (Prod.ext h1 e)
      have h3 : r.1 < s.length := (List.getElem?_eq_some_iff.1 hl).1
      rw [h1, List.getElem?_set_self h3, hl]
      simp [List.getElem?_set, Ne.symm h2]
    · simp [List.getElem?_set, Ne.symm h1]
  case h_2 => rfl

theorem get_put_none {s : Sto} {r r' : Id} : (s.put r none).get r' = if r' = r then none else s.get r' := by
  by_cases h : r' = r
  · subst h
    simp only [if_true]
    unfold Sto.put
    split
    case h_1 l hl =>
      have h3 : r'.1 < s.length := (List.getElem?_eq_some_iff.1 hl).1
      unfold Sto.get
      rw [List.getElem?_set_self h3]
      by_cases h2 : r'.2 < l.length
      · simp [h2]
      · simp [List.getElem?_set, h2]
    case h_2 hl =>
      unfold Sto.get
      simp [hl]
  · simp only [h, if_false]
    exact get_put_ne none h

theorem get_forget {s : Sto} {p : Id → Bool} {r : Id} : (s.forget p).get r = (s.get r).map (·.forget p) := by
  unfold Sto.forget Sto.get
  simp only [List.getElem?_map]
  cases s[r.1]? with
  | none => rfl
  | some l =>
    simp only [Option.map_some, List.getElem?_map]
    cases l[r.2]? with
    | none => rfl
    | some o => rfl

theorem lay_get {s s' : Sto} {t : Nat} {l : List (Option Obj)} (h : s.lay t l = some s') (r : Id) :
    s'.get r = if r.1 = t then (match l[r.2]? with | some o => o | none => none) else s.get r := by
  unfold Sto.lay at h
  split at h
  case h_1 old ho =>
    split at h
    · injection h with h
      subst h
      have h3 : t < s.length := (List.getElem?_eq_some_iff.1 ho).1
      by_cases e : r.1 = t
      · simp only [e, if_true]
        unfold Sto.get
        rw [e, List.getElem?_set_self h3]
        rfl
      · simp only [e, if_false]
        unfold Sto.get
        rw [List.getElem?_set_ne (Ne.symm e)]
    · cases h
  case h_2 => cases h

theorem lay_free {s s' : Sto} {t : Nat} {l : List (Option Obj)} (h : s.lay t l = some s') (r : Id) (hr : r.1 = t) : s.get r = none := by
  unfold Sto.lay at h
  split at h
  case h_1 old ho =>
    split at h
    case isTrue hall =>
      unfold Sto.get
      rw [hr, ho]
      dsimp only
      cases h2 : old[r.2]? with
      | none => rfl
      | some o =>
        have := List.all_eq_true.1 hall o (List.mem_of_getElem? h2)
        simpa using this
    case isFalse => cases h
  case h_2 => cases h

/-! ### forgetting -/

mutual
theorem RV_forget {c : Cx} {p : Id → Bool} : ∀ (a : AV) (v : Value), RV c a v → RV c (a.forget p) v
  | .undef, v, h => by simpa only [AV.forget] using h
  | .bare, v, h => by simpa only [AV.forget] using h
  | .d x, v, h => by simpa only [AV.forget] using h
  | .agg as, v, h => by
    simp only [AV.forget, RV] at h ⊢
    obtain ⟨vs, h1, h2⟩ := h
    exact ⟨vs, h1, RVs_forget as vs h2⟩
  | .tup as, v, h => by
    simp only [AV.forget, RV] at h ⊢
    obtain ⟨vs, h1, h2⟩ := h
    exact ⟨vs, h1, RVs_forget as vs h2⟩
  | .nilp, v, h => by simpa only [AV.forget] using h
  | .emp, v, h => by simpa only [AV.forget] using h
  | .ptr r off, v, h => by simp only [AV.forget]; split; · simp only [RV]
                           · exact h
  | .prow r sz i off, v, h => by simp only [AV.forget]; split; · simp only [RV]
                                 · exact h
  | .sp cs off, v, h => by simpa only [AV.forget] using h
  | .arr r sz g full, v, h => by simp only [AV.forget]; split; · simp only [RV]
                                 · exact h
  | .fn f as, v, h => by
    simp only [AV.forget, RV] at h ⊢
    obtain ⟨vs, h1, h2⟩ := h
    exact ⟨vs, h1, RVs_forget as vs h2⟩
theorem RVs_forget {c : Cx} {p : Id → Bool} : ∀ (as : List AV) (vs : List Value), RVs c as vs → RVs c (AV.forgetL p as) vs
  | [], vs, h => by simpa only [AV.forgetL] using h
  | a :: as, vs, h => by
    simp only [AV.forgetL, RVs] at h ⊢
    obtain ⟨v, vs', h1, h2, h3⟩ := h
    exact ⟨v, vs', h1, RV_forget a v h2, RVs_forget as vs' h3⟩
end

mutual
theorem refs_forget {p : Id → Bool} : ∀ (a : AV), ∀ r ∈ (a.forget p).refs, p r = false
  | .undef, r, h => by simp [AV.forget, AV.refs] at h
  | .bare, r, h => by simp [AV.forget, AV.refs] at h
  | .d x, r, h => by simp [AV.forget, AV.refs] at h
  | .agg as, r, h => by simp only [AV.forget, AV.refs] at h; exact refsL_forget as r h
  | .tup as, r, h => by simp only [AV.forget, AV.refs] at h; exact refsL_forget as r h
  | .nilp, r, h => by simp [AV.forget, AV.refs] at h
  | .emp, r, h => by simp [AV.forget, AV.refs] at h
  | .ptr q off, r, h => by
    simp only [AV.forget] at h
    split at h
    · simp [AV.refs] at h
    · rename_i hp; simp [AV.refs] at h; subst h; simpa using hp
  | .prow q sz i off, r, h => by
    simp only [AV.forget] at h
    split at h
    · simp [AV.refs] at h
    · rename_i hp; simp [AV.refs] at h; subst h; simpa using hp
  | .sp cs off, r, h => by simp [AV.forget, AV.refs] at h
  | .arr q sz g full, r, h => by
    simp only [AV.forget] at h
    split at h
    · simp [AV.refs] at h
    · rename_i hp; simp [AV.refs] at h; subst h; simpa using hp
  | .fn f as, r, h => by simp only [AV.forget, AV.refs] at h; exact refsL_forget as r h
theorem refsL_forget {p : Id → Bool} : ∀ (as : List AV), ∀ r ∈ AV.refsL (AV.forgetL p as), p r = false
  | [], r, h => by simp [AV.forgetL, AV.refsL] at h
  | a :: as, r, h => by
    simp only [AV.forgetL, AV.refsL, List.mem_append] at h
    rcases h with h | h
    · exact refs_forget a r h
    · exact refsL_forget as r h
end

mutual
theorem refs_of_forget {p : Id → Bool} : ∀ (a : AV), ∀ r ∈ (a.forget p).refs, r ∈ a.refs
  | .undef, r, h => by simpa [AV.forget] using h
  | .bare, r, h => by simpa [AV.forget] using h
  | .d x, r, h => by simpa [AV.forget] using h
  | .agg as, r, h => by simp only [AV.forget, AV.refs] at h ⊢; exact refsL_of_forget as r h
  | .tup as, r, h => by simp only [AV.forget, AV.refs] at h ⊢; exact refsL_of_forget as r h
  | .nilp, r, h => by simpa [AV.forget] using h
  | .emp, r, h => by simpa [AV.forget] using h
  | .ptr q off, r, h => by simp only [AV.forget] at h; split at h; · simp [AV.refs] at h
                           · exact h
  | .prow q sz i off, r, h => by simp only [AV.forget] at h; split at h; · simp [AV.refs] at h
                                 · exact h
  | .sp cs off, r, h => by simpa [AV.forget] using h
  | .arr q sz g full, r, h => by simp only [AV.forget] at h; split at h; · simp [AV.refs] at h
                                 · exact h
  | .fn f as, r, h => by simp only [AV.forget, AV.refs] at h ⊢; exact refsL_of_forget as r h
theorem refsL_of_forget {p : Id → Bool} : ∀ (as : List AV), ∀ r ∈ AV.refsL (AV.forgetL p as), r ∈ AV.refsL as
  | [], r, h => by simpa [AV.forgetL] using h
  | a :: as, r, h => by
    simp only [AV.forgetL, AV.refsL, List.mem_append] at h ⊢
    rcases h with h | h
    · exact .inl (refs_of_forget a r h)
    · exact .inr (refsL_of_forget as r h)
end

theorem RO_forget {c : Cx} {p : Id → Bool} {r : Id} {ob : Obj} (h : RO c r ob) : RO c r (ob.forget p) := by
  cases ob with
  | box as =>
    simp only [Obj.forget, RO] at h ⊢
    obtain ⟨b, vs, ty, h1, h2, h3⟩ := h
    exact ⟨b, vs, ty, h1, h2, RVs_forget as _ h3⟩
  | rows sz xs => exact h
  | orows sz xs => exact h
  | gone sz xs => exact h
  | hrows sz xs i off q esz =>
    simp only [Obj.forget]
    split
    · simp only [RO] at h ⊢
      obtain ⟨b, vs, _, _, _, _, _, _, _, _, h1, h2, h3, _⟩ := h
      refine ⟨fun e => (by rw [h1] at e; cases e), fun b' e => ?_⟩
      rw [h1] at e
      injection e with e
      subst e
      exact ⟨vs, h2, h3⟩
    · exact h

theorem RO_mono {c c' : Cx} {r : Id} {ob : Obj} (hz : ZLe c.w c'.w c.Z c'.Z) (hL : c'.L r = c.L r) (hN : c'.L.nest r = c.L.nest r) (hb : ∀ b, ob.has c.L r b → c'.w.heap[b]? = c.w.heap[b]?)
    (hr : ∀ q ∈ ob.refs, Same c c' q) (h : RO c r ob) : RO c' r ob := by
  cases ob with
  | box as =>
    simp only [RO] at h ⊢
    obtain ⟨b, vs, ty, h1, h2, h3⟩ := h
    exact ⟨b, vs, ty, hL.trans h1, (hb b (.inl h1)).trans h2, RVs_mono hz as _ hr h3⟩
  | rows sz xs =>
    simp only [RO] at h ⊢
    obtain ⟨h1, h2⟩ := h
    refine ⟨fun e => h1 (hL ▸ e), fun b e => ?_⟩
    have e' := hL ▸ e
    obtain ⟨vs, h3, h4, h5⟩ := h2 b e'
    exact ⟨vs, (hb b (.inl e')).trans h3, h4, Rows_mono hz (hb b (.inl e')) xs 0 sz.2 h5⟩
  | gone sz xs =>
    simp only [RO] at h ⊢
    obtain ⟨h1, h2⟩ := h
    refine ⟨fun e => h1 (hL ▸ e), fun b e => ?_⟩
    have e' := hL ▸ e
    obtain ⟨vs, h3, h4⟩ := h2 b e'
    exact ⟨vs, (hb b (.inl e')).trans h3, h4⟩
  | orows sz xs =>
    simp only [RO] at h ⊢
    obtain ⟨h1, h2⟩ := h
    refine ⟨fun e => by rw [hN]; exact h1 (hL ▸ e), fun b e => ?_⟩
    have e' := hL ▸ e
    obtain ⟨vs, F, h3, h4, h5, h6, h7⟩ := h2 b e'
    exact ⟨vs, F, (hb b (.inl e')).trans h3, h4, OEs_mono hz _ _ _ _ (fun k hk => hb k (.inr ⟨rfl, (h7 k).2 hk⟩)) h5, h6, by rw [hN]; exact h7⟩
  | hrows sz xs i off q esz =>
    simp only [RO] at h ⊢
    obtain ⟨b, vs, pre, d, post, A1, A2, B1, B2, v, h1, h2, h3, h4, h5, h6, h7, h8, h9, h10, h11, h12, h13, h14, h16, h17⟩ := h
    have hk : ∀ k ∈ A1 ++ A2 ++ B1 ++ B2, c'.w.heap[k]? = c.w.heap[k]? := fun k hk => hb k (.inr ⟨rfl, (h17 k).2 hk⟩)
    have hsm := hr q (by simp [Obj.refs])
    refine ⟨b, vs, pre, d, post, A1, A2, B1, B2, v, hL.trans h1, (hb b (.inl h1)).trans h2, h3, h4, h5, h6, h7, OEs_mono hz _ _ _ _ (fun k m => hk k (by simp [m])) h8, OCs_mono hz _ _ _ (fun k m => hk k (by simp [m])) h9, OCs_mono hz _ _ _ (fun k m => hk k (by simp [m])) h10, OEs_mono hz _ _ _ _ (fun k m => hk k (by simp [m])) h11, h12,
      RV_mono hz _ _ (fun r hr' => by simp [AV.refs] at hr'; subst hr'; exact hsm) h13, h14, h16, by rw [hN]; exact h17⟩

mutual
/-- Every name in a value that means something stands for something. -/
theorem RV_refs {c : Cx} : ∀ (a : AV) (v : Value), RV c a v → ∀ r ∈ a.refs, (c.obj r).isSome
  | .undef, v, h, r, hr => by simp [AV.refs] at hr
  | .bare, v, h, r, hr => by simp [AV.refs] at hr
  | .d x, v, h, r, hr => by simp [AV.refs] at hr
  | .agg as, v, h, r, hr => by simp only [RV] at h; obtain ⟨vs, _, h2⟩ := h; exact RVs_refs as vs h2 r (by simpa [AV.refs] using hr)
  | .tup as, v, h, r, hr => by simp only [RV] at h; obtain ⟨vs, _, h2⟩ := h; exact RVs_refs as vs h2 r (by simpa [AV.refs] using hr)
  | .nilp, v, h, r, hr => by simp [AV.refs] at hr
  | .emp, v, h, r, hr => by simp [AV.refs] at hr
  | .ptr q off, v, h, r, hr => by simp only [RV] at h; obtain ⟨b, h1, _⟩ := h; simp [AV.refs] at hr; subst hr; exact h1
  | .prow q sz i off, v, h, r, hr => by simp only [RV] at h; obtain ⟨b, h1, _⟩ := h; simp [AV.refs] at hr; subst hr; exact h1
  | .sp cs off, v, h, r, hr => by simp [AV.refs] at hr
  | .arr q sz g full, v, h, r, hr => by
    simp only [RV] at h; obtain ⟨_, _, _, xs, _, _, _, h4, _⟩ := h; simp [AV.refs] at hr; subst hr
    cases ho : c.obj r with
    | none => simp [ho] at h4
    | some _ => simp
  | .fn f as, v, h, r, hr => by simp only [RV] at h; obtain ⟨vs, _, h2⟩ := h; exact RVs_refs as vs h2 r (by simpa [AV.refs] using hr)
theorem RVs_refs {c : Cx} : ∀ (as : List AV) (vs : List Value), RVs c as vs → ∀ r ∈ AV.refsL as, (c.obj r).isSome
  | [], vs, h, r, hr => by simp [AV.refsL] at hr
  | a :: as, vs, h, r, hr => by
    simp only [RVs] at h
    obtain ⟨v, vs', _, h2, h3⟩ := h
    simp only [AV.refsL, List.mem_append] at hr
    rcases hr with hr | hr
    · exact RV_refs a v h2 r hr
    · exact RVs_refs as vs' h3 r hr
end

end Go.Vi
