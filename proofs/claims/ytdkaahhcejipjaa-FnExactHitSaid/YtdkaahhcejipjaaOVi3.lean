/- The few ways in which a state turns. -/
import Derived.Test.YtdkaahhcejipjaaOVi2
set_option linter.unusedVariables false
set_option linter.unusedSimpArgs false
set_option linter.unnecessarySimpa false
set_option linter.unusedSectionVars false
namespace Go.Vi
open Go Go.RowKit

abbrev cxOf (w : World) (Z : Nat → Prop) (L : Loc) (s : Sto) : Cx := ⟨w, Z, L, s.get⟩

theorem RVs_set {c : Cx} {as : List AV} {vs : List Value} (h : RVs c as vs) (t : Nat) {a : AV} {v : Value} (hv : RV c a v) : RVs c (as.set t a) (vs.set t v) := by
  rw [RVs_iff] at h ⊢
  obtain ⟨h1, h2⟩ := h
  refine ⟨by simpa using h1, fun i x y hx hy => ?_⟩
  by_cases e : t = i
  · subst e
    have hx' := List.getElem?_eq_some_iff.1 hx
    have hy' := List.getElem?_eq_some_iff.1 hy
    obtain ⟨k1, k2⟩ := hx'
    obtain ⟨k3, k4⟩ := hy'
    simp at k2 k4
    subst k2; subst k4
    exact hv
  · rw [List.getElem?_set_ne e] at hx hy
    exact h2 i x y hx hy

theorem RS.put {s : St} {a : Act} {w : World} {L : Loc} {Z : Nat → Prop} (h : RS s a w L Z) (dst : Option Nat) {x : AV} {v : Value} (hv : RV (cxOf w Z L s.sto) x v) :
    RS ⟨putD s.env dst x, s.sto⟩ (a.put dst v) w L Z := by
  cases dst with
  | none => exact h
  | some t =>
    refine ⟨h.defers, ?_, h.obj, h.injH, h.dis⟩
    simp only [putD, Act.put, Array.toList_setIfInBounds]
    exact RVs_set h.env t hv

theorem RS.get {s : St} {a : Act} {w : World} {L : Loc} {Z : Nat → Prop} (h : RS s a w L Z) {t : Nat} {x : AV} (hx : s.env[t]? = some x) :
    RV (cxOf w Z L s.sto) x (a.tmps.getD t undef) := by
  obtain ⟨h1, h2⟩ := RVs_iff.1 h.env
  have h3 := (List.getElem?_eq_some_iff.1 hx).1
  have h4 : t < a.tmps.size := by rw [← Array.length_toList, ← h1]; exact h3
  refine h2 t x _ hx ?_
  simp [Array.getD, h4]

theorem kill_get {s : St} {r q : Id} : (s.kill r).sto.get q = if q = r then none else (s.sto.get q).map (·.forget (· == r)) := by
  show ((s.sto.put r none).forget _).get q = _
  rw [get_forget, get_put_none]
  split
  · rfl
  · rfl

theorem kill_same {s : St} {w : World} {L : Loc} {Z Z' : Nat → Prop} {r q : Id} (h : q ≠ r) : Same (cxOf w Z L s.sto) (cxOf w Z' L (s.kill r).sto) q := by
  refine ⟨rfl, fun k => ?_, fun sz xs k => ?_, fun _ _ _ => rfl⟩
  · dsimp only at k ⊢
    rw [kill_get, if_neg h]
    simpa using k
  · dsimp only at k ⊢
    rw [kill_get, if_neg h]
    refine ⟨xs, ?_, rfl⟩
    cases ho : s.sto.get q with
    | none => simp [ho] at k
    | some o => simp only [ho, Option.bind_some] at k; simp [Obj.rw_forget, k]

theorem lives_kill {s : St} {L : Loc} {r : Id} {b : Nat} (h : Lives (s.kill r).sto L b) : Lives s.sto L b := by
  obtain ⟨q, ob, h1, h2⟩ := h
  rw [kill_get] at h1
  split at h1
  · cases h1
  · cases h3 : s.sto.get q with
    | none => simp [h3] at h1
    | some o =>
      simp [h3] at h1
      subst h1
      exact ⟨q, o, h3, Obj.has_forget h2⟩

theorem not_lives_kill {s : St} {a : Act} {w : World} {L : Loc} {Z : Nat → Prop} (h : RS s a w L Z) {r : Id} {b : Nat} {ob : Obj} (hr : s.sto.get r = some ob) (hb : ob.has L r b) : ¬ Lives (s.kill r).sto L b := by
  rintro ⟨q, ob, h1, h2⟩
  rw [kill_get] at h1
  split at h1
  · cases h1
  · rename_i hq
    cases h3 : s.sto.get q with
    | none => simp [h3] at h1
    | some o =>
      simp [h3] at h1
      subst h1
      exact hq (h.injH q r b o ob h3 hr (Obj.has_forget h2) hb)

theorem Obj.refs_forget {p : Id → Bool} (o : Obj) : ∀ r ∈ (o.forget p).refs, p r = false := by
  intro r hr
  cases o with
  | box cs => exact refsL_forget cs r (by simpa [Obj.forget, Obj.refs] using hr)
  | hrows sz xs i off q esz =>
    simp only [Obj.forget] at hr
    split at hr
    · simp [Obj.refs] at hr
    · rename_i hp
      simp [Obj.refs] at hr
      subst hr
      simpa using hp
  | _ => simp [Obj.forget, Obj.refs] at hr

/-- An object is gone; its block belongs to nobody. -/
theorem RS.kill {s : St} {a : Act} {w : World} {L : Loc} {Z : Nat → Prop} (h : RS s a w L Z) (r : Id) : RS (s.kill r) a w L Z where
  defers := h.defers
  env := by
    refine RVs_mono (c := cxOf w Z L s.sto) (c' := cxOf w Z L (s.kill r).sto) (ZLe.refl _ _) _ _ (fun q hq => ?_) (RVs_forget (p := (· == r)) s.env _ h.env)
    have := refsL_forget s.env q hq
    exact kill_same (by simpa using this)
  obj q ob hq := by
    rw [kill_get] at hq
    split at hq
    · cases hq
    · cases h3 : s.sto.get q with
      | none => simp [h3] at hq
      | some o =>
        simp [h3] at hq
        subst hq
        refine RO_mono (c := cxOf w Z L s.sto) (c' := cxOf w Z L (s.kill r).sto) (ZLe.refl _ _) rfl rfl (fun _ _ => rfl) (fun k hk => ?_) (RO_forget (h.obj q o h3))
        have : (k == r) = false := Obj.refs_forget o k hk
        exact kill_same (by simpa using this)
  injH q q' b ob ob' hq hq' hb hb' := by
    have f : ∀ k o, (s.kill r).sto.get k = some o → ∃ o', s.sto.get k = some o' ∧ o = o'.forget (· == r) := fun k o hk => by
      rw [kill_get] at hk
      split at hk
      · cases hk
      · cases h3 : s.sto.get k with
        | none => simp [h3] at hk
        | some o' => simp [h3] at hk; exact ⟨o', rfl, hk.symm⟩
    obtain ⟨o, h1, rfl⟩ := f q ob hq
    obtain ⟨o', h2, rfl⟩ := f q' ob' hq'
    exact h.injH q q' b o o' h1 h2 (Obj.has_forget hb) (Obj.has_forget hb')
  dis b hb := ⟨(h.dis b hb).1, fun hl => (h.dis b hb).2 (lives_kill hl)⟩

theorem kill_psame {s : St} {w : World} {L : Loc} {Z Z' : Nat → Prop} {r q : Id} (h : ((s.kill r).sto.get q).isSome) : (s.sto.get q).isSome ∧ Same (cxOf w Z L s.sto) (cxOf w Z' L (s.kill r).sto) q := by
  have hne : q ≠ r := fun e => by rw [kill_get, if_pos e] at h; cases h
  exact ⟨by rw [kill_get, if_neg hne] at h; simpa using h, kill_same hne⟩

theorem Tr.kill (np : Nat) (s : St) (w : World) (L : Loc) (Z : Nat → Prop) (r : Id) : Tr np s.sto (s.kill r).sto w w L L Z Z :=
  ⟨rfl, rfl, rfl, Nat.le_refl _, fun _ _ _ => rfl, fun _ h => .inl (lives_kill h), fun _ h => h, fun _ h => .inl h, fun _ _ => rfl, fun _ _ h => kill_psame h⟩

mutual
theorem OC_lt {w : World} {Z : Nat → Prop} : ∀ (x : D) (v : Value) (F : List Nat), OC w Z x v F → ∀ k ∈ F, k < w.heap.size
  | .own sz xs, v, F, h, k, hk => by
    simp only [OC] at h
    obtain ⟨a, c, _, h2⟩ := h
    rcases h2 with ⟨_, _, rfl⟩ | ⟨b, vs, F', _, rfl, h3, _, _, _, h4⟩
    · simp at hk
    · rcases List.mem_cons.1 hk with rfl | hk
      · exact (Array.getElem?_eq_some_iff.1 h3).1
      · exact OEs_lt sz.2 xs _ F' h4 k hk
  | .agg _, _, _, h, _, _ => by simp [OC] at h
  | .int _ _, _, F, h, k, hk => by simp only [OC] at h; rw [h.2] at hk; cases hk
  | .bool _, _, F, h, k, hk => by simp only [OC] at h; rw [h.2] at hk; cases hk
  | .str _, _, F, h, k, hk => by simp only [OC] at h; rw [h.2] at hk; cases hk
  | .lst _, _, F, h, k, hk => by simp only [OC] at h; rw [h.2] at hk; cases hk
theorem OCs_lt {w : World} {Z : Nat → Prop} : ∀ (xs : List D) (vs : List Value) (F : List Nat), OCs w Z xs vs F → ∀ k ∈ F, k < w.heap.size
  | [], _, F, h, k, hk => by simp only [OCs] at h; rw [h.2] at hk; cases hk
  | d :: ds, vs, F, h, k, hk => by
    simp only [OCs] at h
    obtain ⟨v, vs', F1, F2, _, rfl, h2, h3⟩ := h
    rcases List.mem_append.1 hk with hk | hk
    · exact OC_lt d v F1 h2 k hk
    · exact OCs_lt ds vs' F2 h3 k hk
theorem OE_lt {w : World} {Z : Nat → Prop} : ∀ (x : D) (vs : List Value) (F : List Nat), OE w Z x vs F → ∀ k ∈ F, k < w.heap.size
  | .agg ds, vs, F, h, k, hk => by simp only [OE] at h; exact OCs_lt ds vs F h k hk
  | .own sz xs, vs, F, h, k, hk => by simp only [OE] at h; obtain ⟨v, _, h2⟩ := h; exact OC_lt (.own sz xs) v F h2 k hk
  | .int _ _, _, F, h, k, hk => by simp only [OE] at h; rw [h.2] at hk; cases hk
  | .bool _, _, F, h, k, hk => by simp only [OE] at h; rw [h.2] at hk; cases hk
  | .str _, _, F, h, k, hk => by simp only [OE] at h; rw [h.2] at hk; cases hk
  | .lst _, _, F, h, k, hk => by simp only [OE] at h; rw [h.2] at hk; cases hk
theorem OEs_lt {w : World} {Z : Nat → Prop} (n : Nat) : ∀ (xs : List D) (vs : List Value) (F : List Nat), OEs w Z n xs vs F → ∀ k ∈ F, k < w.heap.size
  | [], _, F, h, k, hk => by simp only [OEs] at h; rw [h] at hk; cases hk
  | x :: xs, vs, F, h, k, hk => by
    simp only [OEs] at h
    obtain ⟨F1, F2, _, rfl, h2, h3⟩ := h
    rcases List.mem_append.1 hk with hk | hk
    · exact OE_lt x _ F1 h2 k hk
    · exact OEs_lt n xs _ F2 h3 k hk
end

theorem RO_has_lt {c : Cx} {r : Id} {ob : Obj} {b : Nat} (h1 : RO c r ob) (hb : ob.has c.L r b) : b < c.w.heap.size := by
  have key : ∀ {o : Go.Obj} {k : Nat}, c.w.heap[k]? = some o → k < c.w.heap.size := fun e => (Array.getElem?_eq_some_iff.1 e).1
  cases ob with
  | box as =>
    simp only [RO] at h1
    obtain ⟨b', vs, ty, h2, h3, _⟩ := h1
    rcases hb with hb | ⟨hb, _⟩
    · rw [hb] at h2; injection h2 with h2; subst h2; exact key h3
    · cases hb
  | rows sz xs =>
    simp only [RO] at h1
    rcases hb with hb | ⟨hb, _⟩
    · obtain ⟨vs, h3, _⟩ := h1.2 b hb; exact key h3
    · cases hb
  | gone sz xs =>
    simp only [RO] at h1
    rcases hb with hb | ⟨hb, _⟩
    · obtain ⟨vs, h3, _⟩ := h1.2 b hb; exact key h3
    · cases hb
  | orows sz xs =>
    simp only [RO] at h1
    rcases hb with hb | ⟨_, hb⟩
    · obtain ⟨vs, F, h3, _⟩ := h1.2 b hb; exact key h3
    · cases hL : c.L r with
      | none => exact ((h1.1 hL).2 b hb).elim
      | some b' =>
        obtain ⟨vs, F, h3, _, h4, _, h5⟩ := h1.2 b' hL
        exact OEs_lt _ _ _ _ h4 b ((h5 b).1 hb)
  | hrows sz xs i off q esz =>
    simp only [RO] at h1
    obtain ⟨b', vs, pre, d, post, A1, A2, B1, B2, v, k1, k2, k3, k4, k5, k6, k7, k8, k9, k10, k11, k12, k13, k14, k16, k17⟩ := h1
    rcases hb with hb | ⟨_, hb⟩
    · rw [hb] at k1; injection k1 with k1; subst k1; exact key k2
    · have := (k17 b).1 hb
      simp only [List.mem_append] at this
      rcases this with ((m | m) | m) | m
      · exact OEs_lt _ _ _ _ k8 b m
      · exact OCs_lt _ _ _ k9 b m
      · exact OCs_lt _ _ _ k10 b m
      · exact OEs_lt _ _ _ _ k11 b m

theorem RS.has_lt {s : St} {a : Act} {w : World} {L : Loc} {Z : Nat → Prop} (h : RS s a w L Z) {r : Id} {ob : Obj} {b : Nat} (hr : s.sto.get r = some ob) (hb : ob.has L r b) : b < w.heap.size := RO_has_lt (h.obj r ob hr) hb
theorem RS.block_lt {s : St} {a : Act} {w : World} {L : Loc} {Z : Nat → Prop} (h : RS s a w L Z) {r : Id} {ob : Obj} {b : Nat} (hr : s.sto.get r = some ob) (hb : L r = some b) : b < w.heap.size := h.has_lt hr (.inl hb)

theorem RO_refs {c : Cx} {r : Id} {ob : Obj} (h : RO c r ob) : ∀ q ∈ ob.refs, (c.obj q).isSome := by
  cases ob with
  | box cs =>
    simp only [RO] at h
    obtain ⟨_, vs, _, _, _, h6⟩ := h
    exact RVs_refs _ _ h6
  | hrows sz xs i off q esz =>
    simp only [RO] at h
    obtain ⟨b', vs, pre, d, post, A1, A2, B1, B2, v, k1, k2, k3, k4, k5, k6, k7, k8, k9, k10, k11, k12, k13, k14, k16, k17⟩ := h
    intro r hr
    exact RV_refs _ _ k13 r (by simpa [AV.refs, Obj.refs] using hr)
  | _ => intro q hq; simp [Obj.refs] at hq

/-- A block that nobody owns is taken for one that no longer changes. -/
theorem RS.addZ {s : St} {a : Act} {w : World} {L : Loc} {Z : Nat → Prop} (h : RS s a w L Z) (X : Nat → Prop) (hX : ∀ b, X b → b < w.heap.size ∧ ¬ Lives s.sto L b) :
    RS s a w L (fun b => Z b ∨ X b) where
  defers := h.defers
  env := RVs_mono (c := cxOf w Z L s.sto) (c' := cxOf w (fun b => Z b ∨ X b) L s.sto) (fun _ hb => ⟨.inl hb, rfl⟩) _ _ (fun q _ => ⟨rfl, fun k => k, fun sz xs k => ⟨xs, k, rfl⟩, fun _ _ _ => rfl⟩) h.env
  obj q ob hq := RO_mono (c := cxOf w Z L s.sto) (c' := cxOf w (fun b => Z b ∨ X b) L s.sto) (fun _ hb => ⟨.inl hb, rfl⟩) rfl rfl (fun _ _ => rfl) (fun q _ => ⟨rfl, fun k => k, fun sz xs k => ⟨xs, k, rfl⟩, fun _ _ _ => rfl⟩) (h.obj q ob hq)
  injH := h.injH
  dis b hb := hb.elim (h.dis b) (hX b)

/-- The same, as one step: an object is gone, and its blocks no longer change. -/
theorem RS.killZ {s : St} {a : Act} {w : World} {L : Loc} {Z : Nat → Prop} (h : RS s a w L Z) {r : Id} {ob : Obj} (hr : s.sto.get r = some ob) (np : Nat) :
    RS (s.kill r) a w L (fun b => Z b ∨ ob.has L r b) ∧ Tr np s.sto (s.kill r).sto w w L L Z (fun b => Z b ∨ ob.has L r b) := by
  refine ⟨(h.kill r).addZ _ fun b hb => ⟨h.has_lt hr hb, not_lives_kill h hr hb⟩, ?_⟩
  exact ⟨rfl, rfl, rfl, Nat.le_refl _, fun _ _ _ => rfl, fun _ h => .inl (lives_kill h), fun _ h => .inl h, fun b hb => hb.imp id fun e => .inr ⟨r, ob, hr, e⟩, fun _ _ => rfl, fun _ _ h => kill_psame h⟩

/-- One object's places are told anew. -/
def updN (L : Loc) (r : Id) (b : Option Nat) (N : Nat → Prop) : Loc := ⟨fun q => if q = r then b else L q, fun q => if q = r then N else L.nest q⟩
def upd (L : Loc) (r : Id) (b : Option Nat) : Loc := updN L r b fun _ => False
theorem upd_self (L : Loc) (r : Id) (b : Option Nat) : upd L r b r = b := by simp [upd, updN]
theorem updN_self (L : Loc) (r : Id) (b : Option Nat) (N : Nat → Prop) : updN L r b N r = b := by simp [updN]
theorem updN_nest (L : Loc) (r : Id) (b : Option Nat) (N : Nat → Prop) : (updN L r b N).nest r = N := by simp [updN]
theorem updN_ne (L : Loc) {r q : Id} (b : Option Nat) (N : Nat → Prop) (h : q ≠ r) : updN L r b N q = L q := by simp [updN, h]
theorem updN_nest_ne (L : Loc) {r q : Id} (b : Option Nat) (N : Nat → Prop) (h : q ≠ r) : (updN L r b N).nest q = L.nest q := by simp [updN, h]
theorem updN_has_ne (L : Loc) {r q : Id} (b : Option Nat) (N : Nat → Prop) (h : q ≠ r) (o : Obj) (k : Nat) : o.has (updN L r b N) q k ↔ o.has L q k := by
  unfold Obj.has
  rw [updN_ne L b N h, updN_nest_ne L b N h]

/-- A new object is laid into an empty slot; its blocks are new, or nobody's. -/
theorem RS.layN {s0 s s' : St} {a : Act} {w w' : World} {L : Loc} {Z : Nat → Prop} {np t : Nat} {ob : Obj} {nb : Option Nat} {N : Nat → Prop}
    (h : RS s a w L Z) (t0 : Tr np s0.sto s.sto w w L L Z Z) (hl : s.lay t [some ob] = some s') (ht : t < np)
    (hos : w'.os = w.os) (htape : w'.tape = w.tape) (hout : w'.output = w.output) (hsize : w.heap.size ≤ w'.heap.size)
    (hkeep : ∀ b, b < w.heap.size → some b ≠ nb → w'.heap[b]? = w.heap[b]?)
    (hnb : ∀ b, nb = some b → ¬ Z b ∧ ¬ Lives s.sto L b ∧ b < w'.heap.size ∧ (w.heap.size ≤ b ∨ Lives s0.sto L b))
    (hN : ∀ b, ob.deep = true → N b → ¬ Z b ∧ ¬ Lives s.sto L b ∧ b < w'.heap.size ∧ (w.heap.size ≤ b ∨ Lives s0.sto L b))
    (hob : RO (cxOf w' Z (updN L (t, 0) nb N) s'.sto) (t, 0) ob) :
    RS s' a w' (updN L (t, 0) nb N) Z ∧ Tr np s0.sto s'.sto w w' L (updN L (t, 0) nb N) Z Z ∧ s'.env = s.env ∧
      ∀ q, (s.sto.get q).isSome → Same (cxOf w Z L s.sto) (cxOf w' Z (updN L (t, 0) nb N) s'.sto) q := by
  have hlay : s.sto.lay t [some ob] = some s'.sto ∧ s'.env = s.env := by
    unfold St.lay at hl
    split at hl
    · rename_i sto e
      injection hl with hl
      subst hl
      exact ⟨e, rfl⟩
    · cases hl
  obtain ⟨hlay, henv⟩ := hlay
  have hfree : ∀ q : Id, q.1 = t → s.sto.get q = none := lay_free hlay
  have hget : ∀ q : Id, s'.sto.get q = if q.1 = t then (match [some ob][q.2]? with | some o => o | none => none) else s.sto.get q := lay_get hlay
  have hold : ∀ q, (s.sto.get q).isSome → q.1 ≠ t := fun q hq e => by rw [hfree q e] at hq; cases hq
  have hzle : ZLe w w' Z Z := fun b hb => ⟨hb, hkeep b (h.dis b hb).1 fun e => (hnb b e.symm).1 hb⟩
  have hne : ∀ q : Id, q.1 ≠ t → q ≠ (t, 0) := fun q hq e => hq (by rw [e])
  have hLold : ∀ q : Id, q.1 ≠ t → updN L (t, 0) nb N q = L q := fun q hq => updN_ne L nb N (hne q hq)
  have hblk : ∀ q o b, s.sto.get q = some o → o.has L q b → w'.heap[b]? = w.heap[b]? := fun q o b hq hb =>
    hkeep b (h.has_lt hq hb) fun e => (hnb b e.symm).2.1 ⟨q, o, hq, hb⟩
  have hsame : ∀ q, (s.sto.get q).isSome → Same (cxOf w Z L s.sto) (cxOf w' Z (updN L (t, 0) nb N) s'.sto) q := fun q hq => by
    refine ⟨hLold q (hold q hq), fun k => ?_, fun sz xs k => ⟨xs, ?_, rfl⟩, fun b hb hs => ?_⟩
    · show (s'.sto.get q).isSome
      rw [hget, if_neg (hold q hq)]; exact k
    · show (s'.sto.get q).bind Obj.rw = _
      rw [hget, if_neg (hold q hq)]; exact k
    · obtain ⟨o, ho⟩ := Option.isSome_iff_exists.1 hq
      exact blkSize_of_heap (hblk q o b ho (.inl hb))
  have hnew : ∀ q ob', s'.sto.get q = some ob' → (q = (t, 0) ∧ ob' = ob) ∨ (q.1 ≠ t ∧ s.sto.get q = some ob') := fun q ob' hq => by
    rw [hget] at hq
    by_cases e : q.1 = t
    · simp only [e, if_true] at hq
      cases hq2 : q.2 with
      | zero =>
        simp [hq2] at hq
        exact .inl ⟨Prod.ext e hq2, hq.symm⟩
      | succ n => simp [hq2] at hq
    · simp only [e, if_false] at hq
      exact .inr ⟨e, hq⟩
  have hnh : ∀ b, ob.has (updN L (t, 0) nb N) (t, 0) b → ¬ Z b ∧ ¬ Lives s.sto L b ∧ b < w'.heap.size ∧ (w.heap.size ≤ b ∨ Lives s0.sto L b) := fun b hb => by
    rcases hb with hb | ⟨h1, hb⟩
    · rw [updN_self] at hb; exact hnb b hb
    · rw [updN_nest] at hb; exact hN b h1 hb
  have hlives : ∀ b, Lives s'.sto (updN L (t, 0) nb N) b → ob.has (updN L (t, 0) nb N) (t, 0) b ∨ Lives s.sto L b := fun b hb => by
    obtain ⟨q, ob', h1, h2⟩ := hb
    rcases hnew q ob' h1 with ⟨rfl, rfl⟩ | ⟨h3, h4⟩
    · exact .inl h2
    · exact .inr ⟨q, ob', h4, (updN_has_ne L nb N (hne q h3) ob' b).1 h2⟩
  refine ⟨⟨h.defers, ?_, ?_, ?_, ?_⟩, ⟨hos.trans t0.os, htape.trans t0.tape, hout.trans t0.output, hsize, ?_, ?_, fun b hb => hb, fun b hb => .inl hb, ?_, fun q hq hs => ?_⟩, henv, hsame⟩
  · rw [henv]
    exact RVs_mono (c := cxOf w Z L s.sto) hzle _ _ (fun q hq => hsame q (RVs_refs _ _ h.env q hq)) h.env
  · intro q ob' hq
    rcases hnew q ob' hq with ⟨rfl, rfl⟩ | ⟨h3, h4⟩
    · exact hob
    · refine RO_mono (c := cxOf w Z L s.sto) hzle (hLold q h3) (updN_nest_ne L nb N (hne q h3)) (fun b hb => hblk q ob' b h4 hb) (fun k hk => ?_) (h.obj q ob' h4)
      exact hsame k (RO_refs (h.obj q ob' h4) k hk)
  · intro q q' b o o' ho ho' hb hb'
    rcases hnew q o ho with ⟨rfl, rfl⟩ | ⟨h3, h4⟩ <;> rcases hnew q' o' ho' with ⟨rfl, rfl⟩ | ⟨h5, h6⟩
    · rfl
    · exact ((hnh b hb).2.1 ⟨q', o', h6, (updN_has_ne L nb N (hne q' h5) o' b).1 hb'⟩).elim
    · exact ((hnh b hb').2.1 ⟨q, o, h4, (updN_has_ne L nb N (hne q h3) o b).1 hb⟩).elim
    · exact h.injH q q' b o o' h4 h6 ((updN_has_ne L nb N (hne q h3) o b).1 hb) ((updN_has_ne L nb N (hne q' h5) o' b).1 hb')
  · intro b hb
    refine ⟨Nat.lt_of_lt_of_le (h.dis b hb).1 hsize, fun hl => ?_⟩
    rcases hlives b hl with e | e
    · exact (hnh b e).1 hb
    · exact (h.dis b hb).2 e
  · intro b hb hn
    have h1 : ¬ Lives s.sto L b := fun hl => by
      rcases t0.lives b hl with h2 | h2
      · exact hn h2
      · omega
    refine hkeep b hb fun e => ?_
    rcases (hnb b e.symm).2.2.2 with h2 | h2
    · omega
    · exact hn h2
  · intro b hb
    rcases hlives b hb with e | e
    · rcases (hnh b e).2.2.2 with h2 | h2
      · exact .inr h2
      · exact .inl h2
    · exact t0.lives b e
  · intro r hr
    exact hLold r (by intro e; rw [e] at hr; omega)
  · obtain ⟨o, ho⟩ := Option.isSome_iff_exists.1 hs
    rcases hnew q o ho with ⟨e, _⟩ | ⟨h3, h4⟩
    · rw [e] at hq; exact absurd ht (Nat.not_lt.2 hq)
    · obtain ⟨p1, p2⟩ := t0.psame q hq (by simp [h4])
      exact ⟨p1, p2.trans (hsame q (by simp [h4]))⟩

theorem RS.lay {s0 s s' : St} {a : Act} {w w' : World} {L : Loc} {Z : Nat → Prop} {np t : Nat} {ob : Obj} {nb : Option Nat}
    (h : RS s a w L Z) (t0 : Tr np s0.sto s.sto w w L L Z Z) (hl : s.lay t [some ob] = some s') (ht : t < np)
    (hos : w'.os = w.os) (htape : w'.tape = w.tape) (hout : w'.output = w.output) (hsize : w.heap.size ≤ w'.heap.size)
    (hkeep : ∀ b, b < w.heap.size → some b ≠ nb → w'.heap[b]? = w.heap[b]?)
    (hnb : ∀ b, nb = some b → ¬ Z b ∧ ¬ Lives s.sto L b ∧ b < w'.heap.size ∧ (w.heap.size ≤ b ∨ Lives s0.sto L b))
    (hob : RO (cxOf w' Z (upd L (t, 0) nb) s'.sto) (t, 0) ob) :
    RS s' a w' (upd L (t, 0) nb) Z ∧ Tr np s0.sto s'.sto w w' L (upd L (t, 0) nb) Z Z ∧ s'.env = s.env ∧
      ∀ q, (s.sto.get q).isSome → Same (cxOf w Z L s.sto) (cxOf w' Z (upd L (t, 0) nb) s'.sto) q :=
  RS.layN h t0 hl ht hos htape hout hsize hkeep hnb (fun _ _ hb => hb.elim) hob

/-- What is there is written; what is owned may be told anew. -/
theorem RS.writeN {s0 s : St} {a : Act} {w w' : World} {L : Loc} {Z : Nat → Prop} {r : Id} {ob ob' : Obj} {b : Nat} {N : Nat → Prop} (np : Nat)
    (h : RS s a w L Z) (t0 : Tr np s0.sto s.sto w w L L Z Z) (hr : s.sto.get r = some ob) (hb : L r = some b)
    (hos : w'.os = w.os) (htape : w'.tape = w.tape) (hout : w'.output = w.output) (hsize : w'.heap.size = w.heap.size)
    (hkeep : ∀ k, k ≠ b → w'.heap[k]? = w.heap[k]?) (hblk : blkSize w' b = blkSize w b)
    (hrows : ∀ sz xs, ob.rw = some (sz, xs) → ∃ ys, ob'.rw = some (sz, ys) ∧ ys.length = xs.length)
    (hN : ∀ k, ob'.has (updN L r (some b) N) r k → ob.has L r k ∨ (¬ Z k ∧ ¬ Lives s.sto L k ∧ k < w.heap.size ∧ Lives s0.sto L k))
    (hob : (∀ q, (s.sto.get q).isSome → Same (cxOf w Z L s.sto) (cxOf w' Z (updN L r (some b) N) (s.sto.put r (some ob'))) q) → ZLe w w' Z Z → RO (cxOf w' Z (updN L r (some b) N) (s.sto.put r (some ob'))) r ob') :
    RS ⟨s.env, s.sto.put r (some ob')⟩ a w' (updN L r (some b) N) Z ∧ Tr np s0.sto (s.sto.put r (some ob')) w w' L (updN L r (some b) N) Z Z := by
  have hzle : ZLe w w' Z Z := fun k hk => ⟨hk, hkeep k fun e => (h.dis k hk).2 (e ▸ ⟨r, ob, hr, .inl hb⟩)⟩
  have hget : ∀ q, (s.sto.put r (some ob')).get q = if q = r then some ob' else s.sto.get q := fun q => by
    by_cases e : q = r
    · subst e; rw [if_pos rfl]; exact get_put_same _ hr
    · rw [if_neg e]; exact get_put_ne _ e
  have hsome : ∀ q, ((s.sto.put r (some ob')).get q).isSome → (s.sto.get q).isSome := fun q hq => by
    rw [hget] at hq
    split at hq
    · rename_i e; subst e; simp [hr]
    · exact hq
  have hLq : ∀ q, updN L r (some b) N q = L q := fun q => by
    by_cases e : q = r
    · subst e; rw [updN_self, hb]
    · exact updN_ne L _ N e
  have hsame : ∀ q, (s.sto.get q).isSome → Same (cxOf w Z L s.sto) (cxOf w' Z (updN L r (some b) N) (s.sto.put r (some ob'))) q := fun q hq => by
    refine ⟨hLq q, fun k => ?_, fun sz xs k => ?_, fun k hk _ => ?_⟩
    · show ((s.sto.put r (some ob')).get q).isSome
      rw [hget]; split; · rfl
      · exact k
    · show ∃ ys, ((s.sto.put r (some ob')).get q).bind Obj.rw = _ ∧ _
      rw [hget]
      split
      · rename_i e
        subst e
        have k' : (s.sto.get q).bind Obj.rw = some (sz, xs) := k
        rw [hr] at k'
        exact hrows sz xs k'
      · exact ⟨xs, k, rfl⟩
    · by_cases e : k = b
      · subst e; exact hblk
      · exact blkSize_of_heap (hkeep k e)
  have hfrom : ∀ q o k, (s.sto.put r (some ob')).get q = some o → o.has (updN L r (some b) N) q k → (∃ o2, s.sto.get q = some o2 ∧ o2.has L q k) ∨ (q = r ∧ ¬ Z k ∧ ¬ Lives s.sto L k ∧ k < w.heap.size ∧ Lives s0.sto L k) := fun q o k h1 h2 => by
    rw [hget] at h1
    split at h1
    · rename_i e
      subst e
      injection h1 with h1
      subst h1
      rcases hN k h2 with h3 | h3
      · exact .inl ⟨ob, hr, h3⟩
      · exact .inr ⟨rfl, h3⟩
    · rename_i e
      exact .inl ⟨o, h1, (updN_has_ne L _ N e o k).1 h2⟩
  have hlives : ∀ k, Lives (s.sto.put r (some ob')) (updN L r (some b) N) k → Lives s.sto L k ∨ (¬ Z k ∧ Lives s0.sto L k) := fun k hk => by
    obtain ⟨q, o, h1, h2⟩ := hk
    rcases hfrom q o k h1 h2 with ⟨o2, m1, m2⟩ | ⟨_, m1, _, _, m2⟩
    · exact .inl ⟨q, o2, m1, m2⟩
    · exact .inr ⟨m1, m2⟩
  refine ⟨⟨h.defers, ?_, ?_, ?_, ?_⟩, ⟨hos.trans t0.os, htape.trans t0.tape, hout.trans t0.output, Nat.le_of_eq hsize.symm, ?_, ?_, fun _ h => h, fun _ h => .inl h, fun q _ => hLq q, fun q hq hs => ?_⟩⟩
  · exact RVs_mono (c := cxOf w Z L s.sto) hzle _ _ (fun q hq => hsame q (RVs_refs _ _ h.env q hq)) h.env
  · intro q o hq
    rw [hget] at hq
    split at hq
    · rename_i e
      subst e
      injection hq with hq
      subst hq
      exact hob hsame hzle
    · rename_i e
      refine RO_mono (c := cxOf w Z L s.sto) hzle (hLq q) (updN_nest_ne L _ N e) (fun k hk => hkeep k fun e2 => e (h.injH q r b o ob hq hr (e2 ▸ hk) (.inl hb))) (fun k hk => ?_) (h.obj q o hq)
      exact hsame k (RO_refs (h.obj q o hq) k hk)
  · intro q q' k o o' hq hq' hk hk'
    rcases hfrom q o k hq hk with ⟨o2, m1, m2⟩ | ⟨e1, _, m2, _, _⟩ <;> rcases hfrom q' o' k hq' hk' with ⟨o3, m3, m4⟩ | ⟨e2, _, m4, _, _⟩
    · exact h.injH q q' k o2 o3 m1 m3 m2 m4
    · exact (m4 ⟨q, o2, m1, m2⟩).elim
    · exact (m2 ⟨q', o3, m3, m4⟩).elim
    · rw [e1, e2]
  · intro k hk
    refine ⟨by rw [hsize]; exact (h.dis k hk).1, fun hl => ?_⟩
    rcases hlives k hl with m | ⟨m, _⟩
    · exact (h.dis k hk).2 m
    · exact m hk
  · intro k hk hn
    exact hkeep k fun e => by
      rcases t0.lives b ⟨r, ob, hr, .inl hb⟩ with m | m
      · exact hn (e ▸ m)
      · omega
  · intro k hk
    rcases hlives k hk with m | ⟨_, m⟩
    · exact t0.lives k m
    · exact .inl m
  · obtain ⟨p1, p2⟩ := t0.psame q hq (hsome q hs)
    exact ⟨p1, p2.trans (hsame q (hsome q hs))⟩

theorem updN_id {L : Loc} {r : Id} {b : Nat} (hb : L r = some b) : updN L r (some b) (L.nest r) = L := by
  unfold updN
  have e1 : (fun q => if q = r then some b else L q) = L.main := by
    funext q
    by_cases e : q = r
    · subst e; simp [hb]
    · simp [e]
  have e2 : (fun q => if q = r then L.nest r else L.nest q) = L.nest := by
    funext q
    by_cases e : q = r
    · subst e; simp
    · simp [e]
  rw [e1, e2]

/-- What is there is written. -/
theorem RS.write {s : St} {a : Act} {w w' : World} {L : Loc} {Z : Nat → Prop} {r : Id} {ob ob' : Obj} {b : Nat} (np : Nat)
    (h : RS s a w L Z) (hr : s.sto.get r = some ob) (hb : L r = some b)
    (hos : w'.os = w.os) (htape : w'.tape = w.tape) (hout : w'.output = w.output) (hsize : w'.heap.size = w.heap.size)
    (hkeep : ∀ k, k ≠ b → w'.heap[k]? = w.heap[k]?) (hblk : blkSize w' b = blkSize w b)
    (hrows : ∀ sz xs, ob.rw = some (sz, xs) → ∃ ys, ob'.rw = some (sz, ys) ∧ ys.length = xs.length) (hdeep : ob'.deep = true → ob.deep = true)
    (hob : (∀ q, (s.sto.get q).isSome → Same (cxOf w Z L s.sto) (cxOf w' Z L (s.sto.put r (some ob'))) q) → ZLe w w' Z Z → RO (cxOf w' Z L (s.sto.put r (some ob'))) r ob') :
    RS ⟨s.env, s.sto.put r (some ob')⟩ a w' L Z ∧ Tr np s.sto (s.sto.put r (some ob')) w w' L L Z Z := by
  have := RS.writeN (s0 := s) (N := L.nest r) np h (Tr.refl _ _ _ _ _) hr hb hos htape hout hsize hkeep hblk hrows (by rw [updN_id hb]; exact fun k hk => .inl (hk.imp id fun m => ⟨hdeep m.1, m.2⟩)) (by rw [updN_id hb]; exact hob)
  rw [updN_id hb] at this
  exact this

end Go.Vi
