/- The few ways in which a state turns. -/
import Derived.Test.YtdkaahhcejipjaaVi2
set_option linter.unusedVariables false
set_option linter.unusedSimpArgs false
namespace Go.Vi
open Go Go.RowKit

abbrev cxOf (w : World) (Z : Nat → Prop) (L : Id → Option Nat) (s : Sto) : Cx := ⟨w, Z, L, s.get⟩

theorem RVs_set {c : Cx} {as : List AV} {vs : List Value} (h : RVs c as vs) (t : Nat) {a : AV} {v : Value} (hv : RV c a v) : RVs c (as.set t a) (vs.set t v) := by
  rw [RVs_iff] at h ⊢
  obtain ⟨h1, h2⟩ := h
  refine ⟨by simpa using h1, fun i x y hx hy => ?_⟩
  by_cases e : t = i
  · subst e
    have hx' := List.getElem?_eq_some_iff.1 hx
    have hy' := List.getElem?_eq_some_iff.1 hy
    obtain ⟨k1, k2⟩ := hx'
    obtain ⟨k3, k4⟩ := hy'
    simp at k2 k4
    subst k2; subst k4
    exact hv
  · rw [List.getElem?_set_ne e] at hx hy
    exact h2 i x y hx hy

theorem RS.put {s : St} {a : Act} {w : World} {L : Id → Option Nat} {Z : Nat → Prop} (h : RS s a w L Z) (dst : Option Nat) {x : AV} {v : Value} (hv : RV (cxOf w Z L s.sto) x v) :
    RS ⟨putD s.env dst x, s.sto⟩ (a.put dst v) w L Z := by
  cases dst with
  | none => exact h
  | some t =>
    refine ⟨h.defers, ?_, h.obj, h.inj, h.dis⟩
    simp only [putD, Act.put, Array.toList_setIfInBounds]
    exact RVs_set h.env t hv

theorem RS.get {s : St} {a : Act} {w : World} {L : Id → Option Nat} {Z : Nat → Prop} (h : RS s a w L Z) {t : Nat} {x : AV} (hx : s.env[t]? = some x) :
    RV (cxOf w Z L s.sto) x (a.tmps.getD t undef) := by
  obtain ⟨h1, h2⟩ := RVs_iff.1 h.env
  have h3 := (List.getElem?_eq_some_iff.1 hx).1
  have h4 : t < a.tmps.size := by rw [← Array.length_toList, ← h1]; exact h3
  refine h2 t x _ hx ?_
  simp [Array.getD, h4]

theorem kill_get {s : St} {r q : Id} : (s.kill r).sto.get q = if q = r then none else (s.sto.get q).map (·.forget (· == r)) := by
  show ((s.sto.put r none).forget _).get q = _
  rw [get_forget, get_put_none]
  split
  · rfl
  · rfl

theorem kill_same {s : St} {w : World} {L : Id → Option Nat} {Z Z' : Nat → Prop} {r q : Id} (h : q ≠ r) : Same (cxOf w Z L s.sto) (cxOf w Z' L (s.kill r).sto) q := by
  refine ⟨rfl, fun k => ?_, fun sz xs k => ?_, fun _ _ _ => rfl⟩
  · dsimp only at k ⊢
    rw [kill_get, if_neg h]
    simpa using k
  · dsimp only at k ⊢
    rw [kill_get, if_neg h, k]
    exact ⟨xs, rfl, rfl⟩

theorem lives_kill {s : St} {L : Id → Option Nat} {r : Id} {b : Nat} (h : Lives (s.kill r).sto L b) : Lives s.sto L b := by
  obtain ⟨q, ob, h1, h2⟩ := h
  rw [kill_get] at h1
  split at h1
  · cases h1
  · cases h3 : s.sto.get q with
    | none => simp [h3] at h1
    | some o => exact ⟨q, o, h3, h2⟩

theorem not_lives_kill {s : St} {a : Act} {w : World} {L : Id → Option Nat} {Z : Nat → Prop} (h : RS s a w L Z) {r : Id} {b : Nat} (hr : (s.sto.get r).isSome) (hb : L r = some b) : ¬ Lives (s.kill r).sto L b := by
  rintro ⟨q, ob, h1, h2⟩
  rw [kill_get] at h1
  split at h1
  · cases h1
  · rename_i hq
    cases h3 : s.sto.get q with
    | none => simp [h3] at h1
    | some o => exact hq (h.inj q r b (by simp [h3]) hr h2 hb)

/-- An object is gone; its block belongs to nobody. -/
theorem RS.kill {s : St} {a : Act} {w : World} {L : Id → Option Nat} {Z : Nat → Prop} (h : RS s a w L Z) (r : Id) : RS (s.kill r) a w L Z where
  defers := h.defers
  env := by
    refine RVs_mono (c := cxOf w Z L s.sto) (c' := cxOf w Z L (s.kill r).sto) (ZLe.refl _ _) _ _ (fun q hq => ?_) (RVs_forget (p := (· == r)) s.env _ h.env)
    have := refsL_forget s.env q hq
    exact kill_same (by simpa using this)
  obj q ob hq := by
    rw [kill_get] at hq
    split at hq
    · cases hq
    · cases h3 : s.sto.get q with
      | none => simp [h3] at hq
      | some o =>
        simp [h3] at hq
        subst hq
        refine RO_mono (c := cxOf w Z L s.sto) (c' := cxOf w Z L (s.kill r).sto) (ZLe.refl _ _) rfl (fun _ _ => rfl) (fun k hk => ?_) (RO_forget (h.obj q o h3))
        have : (k == r) = false := by
          cases o with
          | box cs => exact refsL_forget cs k (by simpa [Obj.forget, Obj.refs] using hk)
          | rows sz xs => simp [Obj.forget, Obj.refs] at hk
        exact kill_same (by simpa using this)
  inj q q' b hq hq' := by
    have f : ∀ k, ((s.kill r).sto.get k).isSome → (s.sto.get k).isSome := fun k hk => by
      rw [kill_get] at hk
      split at hk
      · cases hk
      · simpa using hk
    exact h.inj q q' b (f q hq) (f q' hq')
  dis b hb := ⟨(h.dis b hb).1, fun hl => (h.dis b hb).2 (lives_kill hl)⟩

theorem kill_psame {s : St} {w : World} {L : Id → Option Nat} {Z Z' : Nat → Prop} {r q : Id} (h : ((s.kill r).sto.get q).isSome) : (s.sto.get q).isSome ∧ Same (cxOf w Z L s.sto) (cxOf w Z' L (s.kill r).sto) q := by
  have hne : q ≠ r := fun e => by rw [kill_get, if_pos e] at h; cases h
  exact ⟨by rw [kill_get, if_neg hne] at h; simpa using h, kill_same hne⟩

theorem Tr.kill (np : Nat) (s : St) (w : World) (L : Id → Option Nat) (Z : Nat → Prop) (r : Id) : Tr np s.sto (s.kill r).sto w w L L Z Z :=
  ⟨rfl, rfl, rfl, Nat.le_refl _, fun _ _ _ => rfl, fun _ h => .inl (lives_kill h), fun _ h => h, fun _ h => .inl h, fun _ _ => rfl, fun _ _ h => kill_psame h⟩

theorem RS.block_lt {s : St} {a : Act} {w : World} {L : Id → Option Nat} {Z : Nat → Prop} (h : RS s a w L Z) {r : Id} {ob : Obj} {b : Nat} (hr : s.sto.get r = some ob) (hb : L r = some b) : b < w.heap.size := by
  have h1 := h.obj r ob hr
  have key : ∀ {o : Go.Obj}, w.heap[b]? = some o → b < w.heap.size := fun e => (Array.getElem?_eq_some_iff.1 e).1
  cases ob with
  | box as =>
    simp only [RO] at h1
    obtain ⟨b', vs, ty, h2, h3, _⟩ := h1
    rw [hb] at h2
    injection h2 with h2
    subst h2
    exact key h3
  | rows sz xs =>
    simp only [RO] at h1
    obtain ⟨vs, h3, _⟩ := h1.2 b hb
    exact key h3

/-- A block that nobody owns is taken for one that no longer changes. -/
theorem RS.addZ {s : St} {a : Act} {w : World} {L : Id → Option Nat} {Z : Nat → Prop} (h : RS s a w L Z) (X : Nat → Prop) (hX : ∀ b, X b → b < w.heap.size ∧ ¬ Lives s.sto L b) :
    RS s a w L (fun b => Z b ∨ X b) where
  defers := h.defers
  env := RVs_mono (c := cxOf w Z L s.sto) (c' := cxOf w (fun b => Z b ∨ X b) L s.sto) (fun _ hb => ⟨.inl hb, rfl⟩) _ _ (fun q _ => ⟨rfl, fun k => k, fun sz xs k => ⟨xs, k, rfl⟩, fun _ _ _ => rfl⟩) h.env
  obj q ob hq := RO_mono (c := cxOf w Z L s.sto) (c' := cxOf w (fun b => Z b ∨ X b) L s.sto) (fun _ hb => ⟨.inl hb, rfl⟩) rfl (fun _ _ => rfl) (fun q _ => ⟨rfl, fun k => k, fun sz xs k => ⟨xs, k, rfl⟩, fun _ _ _ => rfl⟩) (h.obj q ob hq)
  inj := h.inj
  dis b hb := hb.elim (h.dis b) (hX b)

/-- The same, as one step: an object is gone, and its block no longer changes. -/
theorem RS.killZ {s : St} {a : Act} {w : World} {L : Id → Option Nat} {Z : Nat → Prop} (h : RS s a w L Z) {r : Id} {ob : Obj} (hr : s.sto.get r = some ob) (np : Nat) :
    RS (s.kill r) a w L (fun b => Z b ∨ L r = some b) ∧ Tr np s.sto (s.kill r).sto w w L L Z (fun b => Z b ∨ L r = some b) := by
  refine ⟨(h.kill r).addZ _ fun b hb => ⟨h.block_lt hr hb, not_lives_kill h (by simp [hr]) hb⟩, ?_⟩
  exact ⟨rfl, rfl, rfl, Nat.le_refl _, fun _ _ _ => rfl, fun _ h => .inl (lives_kill h), fun _ h => .inl h, fun b hb => hb.imp id fun e => .inr ⟨r, ob, hr, e⟩, fun _ _ => rfl, fun _ _ h => kill_psame h⟩

def upd (L : Id → Option Nat) (r : Id) (b : Option Nat) : Id → Option Nat := fun q => if q = r then b else L q

/-- A new object is laid into an empty slot; its block is new, or nobody's. -/
theorem RS.lay {s0 s s' : St} {a : Act} {w w' : World} {L : Id → Option Nat} {Z : Nat → Prop} {np t : Nat} {ob : Obj} {nb : Option Nat}
    (h : RS s a w L Z) (t0 : Tr np s0.sto s.sto w w L L Z Z) (hl : s.lay t [some ob] = some s') (ht : t < np)
    (hos : w'.os = w.os) (htape : w'.tape = w.tape) (hout : w'.output = w.output) (hsize : w.heap.size ≤ w'.heap.size)
    (hkeep : ∀ b, b < w.heap.size → some b ≠ nb → w'.heap[b]? = w.heap[b]?)
    (hnb : ∀ b, nb = some b → ¬ Z b ∧ ¬ Lives s.sto L b ∧ b < w'.heap.size ∧ (w.heap.size ≤ b ∨ Lives s0.sto L b))
    (hob : RO (cxOf w' Z (upd L (t, 0) nb) s'.sto) (t, 0) ob) :
    RS s' a w' (upd L (t, 0) nb) Z ∧ Tr np s0.sto s'.sto w w' L (upd L (t, 0) nb) Z Z ∧ s'.env = s.env ∧
      ∀ q, (s.sto.get q).isSome → Same (cxOf w Z L s.sto) (cxOf w' Z (upd L (t, 0) nb) s'.sto) q := by
  have hlay : s.sto.lay t [some ob] = some s'.sto ∧ s'.env = s.env := by
    unfold St.lay at hl
    split at hl
    · rename_i sto e
      injection hl with hl
      subst hl
      exact ⟨e, rfl⟩
    · cases hl
  obtain ⟨hlay, henv⟩ := hlay
  have hfree : ∀ q : Id, q.1 = t → s.sto.get q = none := lay_free hlay
  have hget : ∀ q : Id, s'.sto.get q = if q.1 = t then (match [some ob][q.2]? with | some o => o | none => none) else s.sto.get q := lay_get hlay
  have hold : ∀ q, (s.sto.get q).isSome → q.1 ≠ t := fun q hq e => by rw [hfree q e] at hq; cases hq
  have hzle : ZLe w w' Z Z := fun b hb => ⟨hb, hkeep b (h.dis b hb).1 fun e => (hnb b e.symm).1 hb⟩
  have hLold : ∀ q : Id, q.1 ≠ t → upd L (t, 0) nb q = L q := fun q hq => by simp [upd, Prod.ext_iff, hq]
  have hblk : ∀ q b, (s.sto.get q).isSome → L q = some b → w'.heap[b]? = w.heap[b]? := fun q b hq hb => by
    obtain ⟨o, ho⟩ := Option.isSome_iff_exists.1 hq
    exact hkeep b (h.block_lt ho hb) fun e => (hnb b e.symm).2.1 ⟨q, o, ho, hb⟩
  have hsame : ∀ q, (s.sto.get q).isSome → Same (cxOf w Z L s.sto) (cxOf w' Z (upd L (t, 0) nb) s'.sto) q := fun q hq => by
    refine ⟨hLold q (hold q hq), fun k => ?_, fun sz xs k => ⟨xs, ?_, rfl⟩, fun b hb hs => blkSize_of_heap (hblk q b hq hb)⟩
    · show (s'.sto.get q).isSome
      rw [hget, if_neg (hold q hq)]; exact k
    · show s'.sto.get q = _
      rw [hget, if_neg (hold q hq)]; exact k
  have hnew : ∀ q ob', s'.sto.get q = some ob' → (q = (t, 0) ∧ ob' = ob) ∨ (q.1 ≠ t ∧ s.sto.get q = some ob') := fun q ob' hq => by
    rw [hget] at hq
    by_cases e : q.1 = t
    · simp only [e, if_true] at hq
      cases hq2 : q.2 with
      | zero =>
        simp [hq2] at hq
        exact .inl ⟨Prod.ext e hq2, hq.symm⟩
      | succ n => simp [hq2] at hq
    · simp only [e, if_false] at hq
      exact .inr ⟨e, hq⟩
  have hlives : ∀ b, Lives s'.sto (upd L (t, 0) nb) b → nb = some b ∨ Lives s.sto L b := fun b hb => by
    obtain ⟨q, ob', h1, h2⟩ := hb
    rcases hnew q ob' h1 with ⟨rfl, _⟩ | ⟨h3, h4⟩
    · exact .inl (by simpa [upd] using h2)
    · exact .inr ⟨q, ob', h4, by rw [← hLold q h3]; exact h2⟩
  refine ⟨⟨h.defers, ?_, ?_, ?_, ?_⟩, ⟨hos.trans t0.os, htape.trans t0.tape, hout.trans t0.output, hsize, ?_, ?_, fun b hb => hb, fun b hb => .inl hb, ?_, fun q hq hs => ?_⟩, henv, hsame⟩
  · rw [henv]
    exact RVs_mono (c := cxOf w Z L s.sto) hzle _ _ (fun q hq => hsame q (RVs_refs _ _ h.env q hq)) h.env
  · intro q ob' hq
    rcases hnew q ob' hq with ⟨rfl, rfl⟩ | ⟨h3, h4⟩
    · exact hob
    · refine RO_mono (c := cxOf w Z L s.sto) hzle (hLold q h3) (fun b hb => hblk q b (by simp [h4]) hb) (fun k hk => ?_) (h.obj q ob' h4)
      have h5 := h.obj q ob' h4
      cases ob' with
      | box cs =>
        simp only [RO] at h5
        obtain ⟨_, vs, _, _, _, h6⟩ := h5
        exact hsame k (RVs_refs _ _ h6 k hk)
      | rows sz xs => simp [Obj.refs] at hk
  · intro q q' b hq hq' hb hb'
    obtain ⟨o, ho⟩ := Option.isSome_iff_exists.1 hq
    obtain ⟨o', ho'⟩ := Option.isSome_iff_exists.1 hq'
    rcases hnew q o ho with ⟨rfl, _⟩ | ⟨h3, h4⟩ <;> rcases hnew q' o' ho' with ⟨rfl, _⟩ | ⟨h5, h6⟩
    · rfl
    · rw [hLold q' h5] at hb'
      simp [upd] at hb
      exact ((hnb b hb).2.1 ⟨q', o', h6, hb'⟩).elim
    · rw [hLold q h3] at hb
      simp [upd] at hb'
      exact ((hnb b hb').2.1 ⟨q, o, h4, hb⟩).elim
    · rw [hLold q h3] at hb
      rw [hLold q' h5] at hb'
      exact h.inj q q' b (by simp [h4]) (by simp [h6]) hb hb'
  · intro b hb
    refine ⟨Nat.lt_of_lt_of_le (h.dis b hb).1 hsize, fun hl => ?_⟩
    rcases hlives b hl with e | e
    · exact (hnb b e).1 hb
    · exact (h.dis b hb).2 e
  · intro b hb hn
    have h1 : ¬ Lives s.sto L b := fun hl => by
      rcases t0.lives b hl with h2 | h2
      · exact hn h2
      · omega
    refine hkeep b hb fun e => ?_
    rcases (hnb b e.symm).2.2.2 with h2 | h2
    · omega
    · exact hn h2
  · intro b hb
    rcases hlives b hb with e | e
    · rcases (hnb b e).2.2.2 with h2 | h2
      · exact .inr h2
      · exact .inl h2
    · exact t0.lives b e
  · intro r hr
    exact hLold r (by intro e; rw [e] at hr; omega)
  · obtain ⟨o, ho⟩ := Option.isSome_iff_exists.1 hs
    rcases hnew q o ho with ⟨e, _⟩ | ⟨h3, h4⟩
    · rw [e] at hq; exact absurd ht (Nat.not_lt.2 hq)
    · obtain ⟨p1, p2⟩ := t0.psame q hq (by simp [h4])
      exact ⟨p1, p2.trans (hsame q (by simp [h4]))⟩

/-- What is there is written. -/
theorem RS.write {s : St} {a : Act} {w w' : World} {L : Id → Option Nat} {Z : Nat → Prop} {r : Id} {ob ob' : Obj} {b : Nat} (np : Nat)
    (h : RS s a w L Z) (hr : s.sto.get r = some ob) (hb : L r = some b)
    (hos : w'.os = w.os) (htape : w'.tape = w.tape) (hout : w'.output = w.output) (hsize : w'.heap.size = w.heap.size)
    (hkeep : ∀ k, k ≠ b → w'.heap[k]? = w.heap[k]?) (hblk : blkSize w' b = blkSize w b)
    (hrows : ∀ sz xs, ob = .rows sz xs → ∃ ys, ob' = .rows sz ys ∧ ys.length = xs.length)
    (hob : (∀ q, (s.sto.get q).isSome → Same (cxOf w Z L s.sto) (cxOf w' Z L (s.sto.put r (some ob'))) q) → ZLe w w' Z Z → RO (cxOf w' Z L (s.sto.put r (some ob'))) r ob') :
    RS ⟨s.env, s.sto.put r (some ob')⟩ a w' L Z ∧ Tr np s.sto (s.sto.put r (some ob')) w w' L L Z Z := by
  have hzle : ZLe w w' Z Z := fun k hk => ⟨hk, hkeep k fun e => (h.dis k hk).2 (e ▸ ⟨r, ob, hr, hb⟩)⟩
  have hget : ∀ q, (s.sto.put r (some ob')).get q = if q = r then some ob' else s.sto.get q := fun q => by
    by_cases e : q = r
    · subst e; rw [if_pos rfl]; exact get_put_same _ hr
    · rw [if_neg e]; exact get_put_ne _ e
  have hsome : ∀ q, ((s.sto.put r (some ob')).get q).isSome → (s.sto.get q).isSome := fun q hq => by
    rw [hget] at hq
    split at hq
    · rename_i e; subst e; simp [hr]
    · exact hq
  have hsame : ∀ q, (s.sto.get q).isSome → Same (cxOf w Z L s.sto) (cxOf w' Z L (s.sto.put r (some ob'))) q := fun q hq => by
    refine ⟨rfl, fun k => ?_, fun sz xs k => ?_, fun k hk _ => ?_⟩
    · show ((s.sto.put r (some ob')).get q).isSome
      rw [hget]; split; · rfl
      · exact k
    · show ∃ ys, (s.sto.put r (some ob')).get q = _ ∧ _
      rw [hget]
      split
      · rename_i e
        subst e
        have : ob = .rows sz xs := by
          have k' : s.sto.get q = some (.rows sz xs) := k
          rw [hr] at k'; injection k'
        obtain ⟨ys, h1, h2⟩ := hrows sz xs this
        exact ⟨ys, by rw [h1], h2⟩
      · exact ⟨xs, k, rfl⟩
    · by_cases e : k = b
      · subst e; exact hblk
      · exact blkSize_of_heap (hkeep k e)
  have hlives : ∀ k, Lives (s.sto.put r (some ob')) L k → Lives s.sto L k := fun k hk => by
    obtain ⟨q, o, h1, h2⟩ := hk
    obtain ⟨o', ho'⟩ := Option.isSome_iff_exists.1 (hsome q (by simp [h1]))
    exact ⟨q, o', ho', h2⟩
  refine ⟨⟨h.defers, ?_, ?_, ?_, ?_⟩, ⟨hos, htape, hout, Nat.le_of_eq hsize.symm, ?_, fun k hk => .inl (hlives k hk), fun _ h => h, fun _ h => .inl h, fun _ _ => rfl, fun q _ hq => ⟨hsome q hq, hsame q (hsome q hq)⟩⟩⟩
  · exact RVs_mono (c := cxOf w Z L s.sto) hzle _ _ (fun q hq => hsame q (RVs_refs _ _ h.env q hq)) h.env
  · intro q o hq
    rw [hget] at hq
    split at hq
    · rename_i e
      subst e
      injection hq with hq
      subst hq
      exact hob hsame hzle
    · rename_i e
      refine RO_mono (c := cxOf w Z L s.sto) hzle rfl (fun k hk => hkeep k fun e2 => e (h.inj q r b (by simp [hq]) (by simp [hr]) (e2 ▸ hk) hb)) (fun k hk => ?_) (h.obj q o hq)
      have h5 := h.obj q o hq
      cases o with
      | box cs =>
        simp only [RO] at h5
        obtain ⟨_, vs, _, _, _, h6⟩ := h5
        exact hsame k (RVs_refs _ _ h6 k hk)
      | rows sz xs => simp [Obj.refs] at hk
  · intro q q' k hq hq'
    exact h.inj q q' k (hsome q hq) (hsome q' hq')
  · intro k hk
    exact ⟨by rw [hsize]; exact (h.dis k hk).1, fun hl => (h.dis k hk).2 (hlives k hl)⟩
  · intro k _ hn
    exact hkeep k fun e => hn (e ▸ ⟨r, ob, hr, hb⟩)

end Go.Vi
