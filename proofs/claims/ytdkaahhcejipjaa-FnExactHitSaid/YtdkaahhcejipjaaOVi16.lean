/- Calls: what comes back. -/
import Derived.Test.YtdkaahhcejipjaaOVi15
set_option linter.unusedVariables false
set_option linter.unusedSimpArgs false
set_option linter.unnecessarySimpa false
set_option linter.unusedSectionVars false
namespace Go.Vi
open Go Go.RowKit
section
variable {P : Program} {call : FuncId → List AV → List (Option Obj) → Option CRes} {loop : Nat → St → Option (Out × St)}
variable {s : St} {a : Act} {w w' : World} {L L' : Loc} {Z Z' : Nat → Prop}

theorem out_get {A B : List (Option Obj)} {r : Id} {ob : Obj} (h : Sto.get [A, B] r = some ob) : (r.1 = 0 ∧ at? A r.2 = some ob) ∨ (r.1 = 1 ∧ at? B r.2 = some ob) := by
  obtain ⟨i, j⟩ := r
  match i with
  | 0 => exact .inl ⟨rfl, h⟩
  | 1 => exact .inr ⟨rfl, h⟩
  | i + 2 => rw [get2_2] at h; cases h

theorem has_iff {o : Obj} {L L' : Loc} {q r : Id} {b : Nat} (h1 : L q = L' r) (h2 : L.nest q = L'.nest r) : o.has L q b ↔ o.has L' r b := by
  unfold Obj.has
  rw [h1, h2]
theorem has_map {o : Obj} {L : Loc} {q : Id} {b : Nat} {f : Id → Id} : (o.map f).has L q b ↔ o.has L q b := by
  unfold Obj.has
  rw [Obj.deep_map]

/-- What a call gives back, laid under the caller's names. X: what is new; tt: where it is laid. -/
theorem call_back {ids : List Id} {ret : AV} {X pars : List (Option Obj)} {v : Value} {np tt : Nat} {sto fin : Sto} {env : List AV} (h : RS s a w L Z) (hn : ids.Nodup) (hs : ∀ r ∈ ids, (s.sto.get r).isSome)
    (k : RS ⟨[ret], [X, pars]⟩ ⟨#[v], []⟩ w' L' Z') (t : Tr 1 [[], inC s.sto ids] [X, pars] w w' (inL ids L) L' Z Z') (hX : X ≠ [] → tt < np)
    (back : Id → Id) (hback : ∀ r, back r = if r.1 = 1 then ids.getD r.2 (0, 0) else (tt, r.2))
    (hlen : ids.length = pars.length) (hsto1 : ∀ q, q ∉ ids → sto.get q = s.sto.get q) (hsto2 : ∀ (i : Nat) (q : Id), ids[i]? = some q → sto.get q = (at? pars i).map (·.map back))
    (dead : Id → Bool) (hdead : ∀ r, dead r = (ids.contains r && (sto.get r).isNone)) (henv : env = AV.forgetL dead s.env)
    (hfin : ∀ q, fin.get q = if X ≠ [] ∧ q.1 = tt then (at? X q.2).map (·.map back) else (sto.get q).map (·.forget dead)) (hfree : X ≠ [] → ∀ q : Id, q.1 = tt → sto.get q = none) :
    ∃ L'', RS ⟨env, fin⟩ a w' L'' Z' ∧ Tr np s.sto fin w w' L L'' Z Z' ∧ RV (cxOf w' Z' L'' fin) (ret.map back) v := by
  have hpar : ∀ (i : Nat) (q : Id), ids[i]? = some q → L' (1, i) = L q := fun i q hi => by
    rw [t.par (1, i) (Nat.le_refl _)]; simp [inL, hi]
  have hinlive : ∀ b, Lives [[], inC s.sto ids] (inL ids L) b → Lives s.sto L b := fun b hl => by
    obtain ⟨q, _, o, h2, h3⟩ := in_lives hl
    exact ⟨q, o, h2, h3⟩
  have hlt : ∀ q o b, s.sto.get q = some o → o.has L q b → b < w.heap.size := fun q o b hq hb => h.has_lt hq hb
  have hout : ∀ q o b, q ∉ ids → s.sto.get q = some o → o.has L q b → ¬ Lives [[], inC s.sto ids] (inL ids L) b := fun q o b hq hqs hb hl => by
    obtain ⟨p, hp, o', h2, h3⟩ := in_lives hl
    exact hq ((h.injH q p b o o' hqs h2 hb h3) ▸ hp)
  have hheap : ∀ q o b, q ∉ ids → s.sto.get q = some o → o.has L q b → w'.heap[b]? = w.heap[b]? := fun q o b hq hqs hb => t.keep b (hlt q o b hqs hb) (hout q o b hq hqs hb)
  have hzle : ZLe w w' Z Z' := fun b hb => ⟨t.zin b hb, t.keep b (h.dis b hb).1 fun hl => (h.dis b hb).2 (hinlive b hl)⟩
  generalize hL2 : (⟨fun q : Id => if X ≠ [] ∧ q.1 = tt then L' (0, q.2) else L q, fun q : Id => if X ≠ [] ∧ q.1 = tt then L'.nest (0, q.2) else if q ∈ ids then L'.nest (1, idx ids q) else L.nest q⟩ : Loc) = L2
  have hL2a : ∀ q : Id, X ≠ [] → q.1 = tt → L2 q = L' (0, q.2) := fun q h1 h2 => by rw [← hL2]; simp [h1, h2]
  have hL2b : ∀ q : Id, ¬ (X ≠ [] ∧ q.1 = tt) → L2 q = L q := fun q h1 => by rw [← hL2]; simp only; rw [if_neg h1]
  have hN2a : ∀ q : Id, X ≠ [] → q.1 = tt → L2.nest q = L'.nest (0, q.2) := fun q h1 h2 => by rw [← hL2]; simp [h1, h2]
  have hN2b : ∀ q : Id, ¬ (X ≠ [] ∧ q.1 = tt) → q ∉ ids → L2.nest q = L.nest q := fun q h1 h2 => by rw [← hL2]; simp only; rw [if_neg h1, if_neg h2]
  have hN2c : ∀ (q : Id) (i : Nat), ¬ (X ≠ [] ∧ q.1 = tt) → ids[i]? = some q → L2.nest q = L'.nest (1, i) := fun q i h1 h2 => by rw [← hL2]; simp only; rw [if_neg h1, if_pos (List.mem_of_getElem? h2), idx_of hn h2]
  have hnotslot : ∀ q, (sto.get q).isSome → ¬ (X ≠ [] ∧ q.1 = tt) := fun q hq ⟨h1, h2⟩ => by rw [hfree h1 q h2] at hq; cases hq
  have hmem : ∀ q ∈ ids, ∃ i : Nat, ids[i]? = some q := fun q hq => ⟨_, idx_get hq⟩
  -- names that the call knows
  have hren : ∀ r, (Sto.get [X, pars] r).isSome → Ren ⟨w', Z', L', Sto.get [X, pars]⟩ (cxOf w' Z' L2 fin) back r := by
    intro r hr
    obtain ⟨o, ho⟩ := Option.isSome_iff_exists.1 hr
    rcases out_get ho with ⟨h1, h2⟩ | ⟨h1, h2⟩
    · have hXne : X ≠ [] := by rintro rfl; simp [at?] at h2
      have hb : back r = (tt, r.2) := by rw [hback, h1]; simp
      have hg : fin.get (tt, r.2) = some (o.map back) := by rw [hfin, if_pos ⟨hXne, rfl⟩, h2]; rfl
      refine ⟨?_, fun _ => ?_, fun sz xs e => ?_⟩
      · show L2 (back r) = L' r
        rw [hb, hL2a _ hXne rfl]
        congr 1; exact Prod.ext h1.symm rfl
      · show (fin.get (back r)).isSome
        rw [hb, hg]; rfl
      · show (fin.get (back r)).bind Obj.rw = _
        have e' : (Sto.get [X, pars] r).bind Obj.rw = some (sz, xs) := e
        rw [ho] at e'
        rw [hb, hg]
        simpa [Obj.rw_map] using e'
    · have h3 := at?_some h2
      have h4 : r.2 < ids.length := by rw [hlen]; exact (List.getElem?_eq_some_iff.1 h3).1
      obtain ⟨q, hq⟩ : ∃ q, ids[r.2]? = some q := ⟨_, List.getElem?_eq_getElem h4⟩
      have hb : back r = q := by rw [hback, if_pos h1]; simp [List.getD, hq]
      have hsg : sto.get q = some (o.map back) := by rw [hsto2 _ _ hq, h2]; rfl
      have hns := hnotslot q (by simp [hsg])
      have hg : fin.get q = some ((o.map back).forget dead) := by rw [hfin, if_neg hns, hsg]; rfl
      refine ⟨?_, fun _ => ?_, fun sz xs e => ?_⟩
      · show L2 (back r) = L' r
        rw [hb, hL2b _ hns, ← hpar _ _ hq]
        congr 1; exact Prod.ext h1.symm rfl
      · show (fin.get (back r)).isSome
        rw [hb, hg]; rfl
      · show (fin.get (back r)).bind Obj.rw = _
        have e' : (Sto.get [X, pars] r).bind Obj.rw = some (sz, xs) := e
        rw [ho] at e'
        rw [hb, hg]
        simpa [Obj.rw_map, Obj.rw_forget] using e'
  -- where what is there comes from
  have hfrom : ∀ q ob, fin.get q = some ob → (∃ r o, Sto.get [X, pars] r = some o ∧ back r = q ∧ (L2 q = L' r ∧ L2.nest q = L'.nest r) ∧ (ob = o.map back ∨ ob = (o.map back).forget dead)) ∨
      (q ∉ ids ∧ ¬ (X ≠ [] ∧ q.1 = tt) ∧ (L2 q = L q ∧ L2.nest q = L.nest q) ∧ ∃ o, s.sto.get q = some o ∧ ob = o.forget dead) := by
    intro q ob hq
    rw [hfin] at hq
    by_cases hc : X ≠ [] ∧ q.1 = tt
    · rw [if_pos hc] at hq
      left
      cases ho : at? X q.2 with
      | none => simp [ho] at hq
      | some o =>
        simp [ho] at hq
        refine ⟨(0, q.2), o, ho, ?_, ⟨hL2a q hc.1 hc.2, hN2a q hc.1 hc.2⟩, .inl hq.symm⟩
        rw [hback]
        simp [← hc.2]
    · rw [if_neg hc] at hq
      by_cases hm : q ∈ ids
      · left
        obtain ⟨i, hi⟩ := hmem q hm
        rw [hsto2 i q hi] at hq
        cases ho : at? pars i with
        | none => simp [ho] at hq
        | some o =>
          simp [ho] at hq
          refine ⟨(1, i), o, ho, ?_, ⟨?_, hN2c q i hc hi⟩, .inr hq.symm⟩
          · rw [hback]; simp [hi]
          · rw [hL2b q hc, hpar i q hi]
      · right
        rw [hsto1 q hm] at hq
        cases ho : s.sto.get q with
        | none => simp [ho] at hq
        | some o => simp [ho] at hq; exact ⟨hm, hc, ⟨hL2b q hc, hN2b q hc hm⟩, o, rfl, hq.symm⟩
  -- names that were there
  have hsame : ∀ r, (s.sto.get r).isSome → dead r = false → Same (cxOf w Z L s.sto) (cxOf w' Z' L2 fin) r := by
    intro r hr hd
    by_cases hm : r ∈ ids
    · obtain ⟨i, hi⟩ := hmem r hm
      have hsg : (sto.get r).isSome := by
        rw [hdead] at hd
        have hc : ids.contains r = true := by simpa using hm
        rw [hc, Bool.true_and] at hd
        cases hx : sto.get r with
        | none => simp [hx] at hd
        | some _ => rfl
      have hns := hnotslot r hsg
      rw [hsto2 i r hi] at hsg
      have hps : (Sto.get [X, pars] (1, i)).isSome := by rw [get2_1]; simpa using hsg
      obtain ⟨_, p1, p2, p3, p4⟩ := t.psame (1, i) (Nat.le_refl _) hps
      have hing : Sto.get [[], inC s.sto ids] (1, i) = (s.sto.get r).map (·.map fun r => (1, idx ids r)) := by rw [get2_1, inC_at, hi]
      refine ⟨hL2b r hns, fun _ => ?_, fun sz xs e => ?_, fun b hb hs' => ?_⟩
      · show (fin.get r).isSome
        rw [hfin, if_neg hns, hsto2 i r hi]
        simpa using hsg
      · have e' : (s.sto.get r).bind Obj.rw = some (sz, xs) := e
        obtain ⟨ys, y1, y2⟩ := p3 sz xs (by
          show (Sto.get [[], inC s.sto ids] (1, i)).bind Obj.rw = _
          rw [hing]
          cases ho : s.sto.get r with
          | none => simp [ho] at e'
          | some o => simp [ho] at e'; simp [Obj.rw_map, e'])
        have y1' : (at? pars i).bind Obj.rw = some (sz, ys) := y1
        refine ⟨ys, ?_, y2⟩
        show (fin.get r).bind Obj.rw = _
        rw [hfin, if_neg hns, hsto2 i r hi]
        cases ho : at? pars i with
        | none => simp [ho] at y1'
        | some o => simp [ho] at y1'; simp [Obj.rw_map, Obj.rw_forget, y1']
      · exact p4 b (by show inL ids L (1, i) = _; simpa [inL, hi] using hb) (by show (Sto.get [[], inC s.sto ids] (1, i)).isSome; rw [hing]; simpa using hr)
    · have hsg : (sto.get r).isSome := by rw [hsto1 r hm]; exact hr
      have hns := hnotslot r hsg
      refine ⟨hL2b r hns, fun _ => ?_, fun sz xs e => ⟨xs, ?_, rfl⟩, fun b hb hs' => by
        obtain ⟨o, ho⟩ := Option.isSome_iff_exists.1 hr
        exact blkSize_of_heap (hheap r o b hm ho (.inl hb))⟩
      · show (fin.get r).isSome
        rw [hfin, if_neg hns]; simpa using hsg
      · have e' : (s.sto.get r).bind Obj.rw = some (sz, xs) := e
        show (fin.get r).bind Obj.rw = _
        rw [hfin, if_neg hns, hsto1 r hm]
        cases ho : s.sto.get r with
        | none => simp [ho] at e'
        | some o => simp [ho] at e'; simp [Obj.rw_forget, e']
  have houtlive : ∀ b, Lives [X, pars] L' b → (∃ q ∈ ids, ∃ o, s.sto.get q = some o ∧ o.has L q b) ∨ w.heap.size ≤ b := fun b hl => (t.lives b hl).imp in_lives id
  have hhas1 : ∀ {q r : Id} {o ob : Obj} {b : Nat}, L2 q = L' r ∧ L2.nest q = L'.nest r → (ob = o.map back ∨ ob = (o.map back).forget dead) → ob.has L2 q b → o.has L' r b := by
    intro q r o ob b e1 e2 hb
    refine (has_iff e1.1 e1.2).1 (has_map (f := back) |>.1 ?_)
    rcases e2 with rfl | rfl
    · exact hb
    · exact Obj.has_forget hb
  have hhas2 : ∀ {q : Id} {o ob : Obj} {b : Nat}, L2 q = L q ∧ L2.nest q = L.nest q → ob = o.forget dead → ob.has L2 q b → o.has L q b := by
    intro q o ob b e1 e2 hb
    subst e2
    exact (has_iff e1.1 e1.2).1 (Obj.has_forget hb)
  have hlives : ∀ b, Lives fin L2 b → Lives [X, pars] L' b ∨ ∃ q, q ∉ ids ∧ ∃ o, s.sto.get q = some o ∧ o.has L q b := by
    intro b hl
    obtain ⟨q, ob, h1, h2⟩ := hl
    rcases hfrom q ob h1 with ⟨r, o, g1, g2, g3, g4⟩ | ⟨g1, _, g2, o, g3, g4⟩
    · exact .inl ⟨r, o, g1, hhas1 g3 g4 h2⟩
    · exact .inr ⟨q, g1, o, g3, hhas2 g2 g4 h2⟩
  refine ⟨L2, ⟨h.defers, ?_, ?_, ?_, ?_⟩, ⟨t.os, t.tape, t.output, t.size, ?_, ?_, t.zin, ?_, ?_, ?_⟩, ?_⟩
  · rw [henv]
    refine RVs_mono (c := cxOf w Z L s.sto) (c' := cxOf w' Z' L2 fin) hzle _ _ (fun q hq => ?_) (RVs_forget (p := dead) s.env _ h.env)
    exact hsame q (RVs_refs _ _ h.env q (refsL_of_forget s.env q hq)) (refsL_forget s.env q hq)
  · intro q ob hq
    rcases hfrom q ob hq with ⟨r, o, g1, g2, g3, g4⟩ | ⟨g1, gc, g2, o, g3, g4⟩
    · have hro := k.obj r o g1
      have := RO_map (w := w') (Z := Z') (L := L') (L' := L2) (g := Sto.get [X, pars]) (g' := fin.get) (f := back) (r := r) (r' := q) hro g3.1 (fun _ => g3.2) (fun p hp => hren p (RO_refs hro p hp))
      rcases g4 with g4 | g4
      · rw [g4]; exact this
      · rw [g4]; exact RO_forget this
    · rw [g4]
      have hro := h.obj q o g3
      refine RO_mono (c := cxOf w Z L s.sto) (c' := cxOf w' Z' L2 fin) hzle g2.1 g2.2 (fun b hb => hheap q o b g1 g3 (Obj.has_forget hb)) (fun p hp => ?_) (RO_forget hro)
      exact hsame p (RO_refs (RO_forget (p := dead) hro) p hp) (Obj.refs_forget o p hp)
  · intro q q' b ob ob' ho ho' hb hb'
    have cross : ∀ r o p o', Sto.get [X, pars] r = some o → o.has L' r b → p ∉ ids → s.sto.get p = some o' → o'.has L p b → False := by
      intro r o p o' g1 g2 g3 g4 g5
      rcases houtlive b ⟨r, o, g1, g2⟩ with ⟨x, x1, o2, x2, x3⟩ | x
      · exact g3 ((h.injH p x b o' o2 g4 x2 g5 x3) ▸ x1)
      · have := hlt p o' b g4 g5; omega
    rcases hfrom q ob ho with ⟨r, o, g1, g2, g3, g4⟩ | ⟨g1, _, g2, o, g3, g4⟩
    · rcases hfrom q' ob' ho' with ⟨r', o', g1', g2', g3', g4'⟩ | ⟨g1', _, g2', o', g3', g4'⟩
      · have := k.injH r r' b o o' g1 g1' (hhas1 g3 g4 hb) (hhas1 g3' g4' hb')
        rw [← g2, ← g2', this]
      · exact (cross r o q' o' g1 (hhas1 g3 g4 hb) g1' g3' (hhas2 g2' g4' hb')).elim
    · rcases hfrom q' ob' ho' with ⟨r', o', g1', g2', g3', g4'⟩ | ⟨g1', _, g2', o', g3', g4'⟩
      · exact (cross r' o' q o g1' (hhas1 g3' g4' hb') g1 g3 (hhas2 g2 g4 hb)).elim
      · exact h.injH q q' b o o' g3 g3' (hhas2 g2 g4 hb) (hhas2 g2' g4' hb')
  · intro b hb
    refine ⟨(k.dis b hb).1, fun hl => ?_⟩
    rcases hlives b hl with g | ⟨q, g1, o, g2, g3⟩
    · exact (k.dis b hb).2 g
    · rcases t.zout b hb with x | x | x
      · exact (h.dis b x).2 ⟨q, o, g2, g3⟩
      · have := hlt q o b g2 g3; omega
      · exact hout q o b g1 g2 g3 x
  · intro b hb hnl
    exact t.keep b hb fun hl => hnl (hinlive b hl)
  · intro b hl
    rcases hlives b hl with g | ⟨q, g1, o, g2, g3⟩
    · exact (t.lives b g).imp (hinlive b) id
    · exact .inl ⟨q, o, g2, g3⟩
  · intro b hb
    exact (t.zout b hb).imp id fun x => x.imp id (hinlive b)
  · intro r hr
    exact hL2b r fun ⟨h1, h2⟩ => by have := hX h1; omega
  · intro r hr hs'
    obtain ⟨ob, ho⟩ := Option.isSome_iff_exists.1 hs'
    have hslot : ¬ (X ≠ [] ∧ r.1 = tt) := fun ⟨h1, h2⟩ => by have := hX h1; omega
    have hsg : (sto.get r).isSome := by rw [hfin, if_neg hslot] at ho; cases hx : sto.get r with
      | none => simp [hx] at ho
      | some _ => rfl
    have hdd : dead r = false := by
      rw [hdead]
      cases hx : sto.get r with
      | none => simp [hx] at hsg
      | some _ => simp
    have hss : (s.sto.get r).isSome := by
      by_cases hm : r ∈ ids
      · exact hs r hm
      · rw [hsto1 r hm] at hsg; exact hsg
    exact ⟨hss, hsame r hss hdd⟩
  · have h1 := k.env
    simp only [RVs] at h1
    obtain ⟨v', vs', e1, h2, e2⟩ := h1
    subst e2
    have : v' = v := by have : [v] = [v'] := e1; injection this with this; exact this.symm
    subst this
    exact RV_map (w := w') (Z := Z') (L := L') (ob := Sto.get [X, pars]) ret _ (fun r hr => hren r (RV_refs _ _ h2 r hr)) h2

end
end Go.Vi
