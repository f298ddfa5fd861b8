/- Calls: what comes back. -/
import Derived.Test.YtdkaahhcejipjaaVi15
set_option linter.unusedVariables false
set_option linter.unusedSimpArgs false
namespace Go.Vi
open Go Go.RowKit
section
variable {P : Program} {call : FuncId → List AV → List (Option Obj) → Option CRes} {loop : Nat → St → Option (Out × St)}
variable {s : St} {a : Act} {w w' : World} {L L' : Id → Option Nat} {Z Z' : Nat → Prop}

theorem out_get {A B : List (Option Obj)} {r : Id} {ob : Obj} (h : Sto.get [A, B] r = some ob) : (r.1 = 0 ∧ at? A r.2 = some ob) ∨ (r.1 = 1 ∧ at? B r.2 = some ob) := by
  obtain ⟨i, j⟩ := r
  match i with
  | 0 => exact .inl ⟨rfl, h⟩
  | 1 => exact .inr ⟨rfl, h⟩
  | i + 2 => rw [get2_2] at h; cases h

theorem forget_rows {ob : Obj} {p : Id → Bool} {sz : Elt} {xs : List D} (h : ob = .rows sz xs) : ob.forget p = .rows sz xs := by subst h; rfl
theorem map_rows {ob : Obj} {f : Id → Id} {sz : Elt} {xs : List D} (h : ob = .rows sz xs) : ob.map f = .rows sz xs := by subst h; rfl

theorem RO_block_lt {w : World} {Z : Nat → Prop} {L : Id → Option Nat} {g : Id → Option Obj} {r : Id} {ob : Obj} {b : Nat} (h : RO ⟨w, Z, L, g⟩ r ob) (hb : L r = some b) : b < w.heap.size := by
  have key : ∀ {o : Go.Obj}, w.heap[b]? = some o → b < w.heap.size := fun e => (Array.getElem?_eq_some_iff.1 e).1
  cases ob with
  | box as =>
    simp only [RO] at h
    obtain ⟨b', vs, ty, h2, h3, _⟩ := h
    have : b' = b := by have := h2.symm.trans hb; injection this
    subst this
    exact key h3
  | rows sz xs =>
    simp only [RO] at h
    obtain ⟨vs, h3, _⟩ := h.2 b hb
    exact key h3

/-- What a call gives back, laid under the caller's names. X: what is new; tt: where it is laid. -/
theorem call_back {ids : List Id} {ret : AV} {X pars : List (Option Obj)} {v : Value} {np tt : Nat} {sto fin : Sto} {env : List AV} (h : RS s a w L Z) (hn : ids.Nodup) (hs : ∀ r ∈ ids, (s.sto.get r).isSome)
    (k : RS ⟨[ret], [X, pars]⟩ ⟨#[v], []⟩ w' L' Z') (t : Tr 1 [[], inC s.sto ids] [X, pars] w w' (inL ids L) L' Z Z') (hX : X ≠ [] → tt < np)
    (back : Id → Id) (hback : ∀ r, back r = if r.1 = 1 then ids.getD r.2 (0, 0) else (tt, r.2))
    (hlen : ids.length = pars.length) (hsto1 : ∀ q, q ∉ ids → sto.get q = s.sto.get q) (hsto2 : ∀ (i : Nat) (q : Id), ids[i]? = some q → sto.get q = (at? pars i).map (·.map back))
    (dead : Id → Bool) (hdead : ∀ r, dead r = (ids.contains r && (sto.get r).isNone)) (henv : env = AV.forgetL dead s.env)
    (hfin : ∀ q, fin.get q = if X ≠ [] ∧ q.1 = tt then (at? X q.2).map (·.map back) else (sto.get q).map (·.forget dead)) (hfree : X ≠ [] → ∀ q : Id, q.1 = tt → sto.get q = none) :
    ∃ L'', RS ⟨env, fin⟩ a w' L'' Z' ∧ Tr np s.sto fin w w' L L'' Z Z' ∧ RV (cxOf w' Z' L'' fin) (ret.map back) v := by
  have hpar : ∀ (i : Nat) (q : Id), ids[i]? = some q → L' (1, i) = L q := fun i q hi => by
    rw [t.par (1, i) (Nat.le_refl _)]; simp [inL, hi]
  have hinlive : ∀ b, Lives [[], inC s.sto ids] (inL ids L) b → Lives s.sto L b := fun b hl => by
    obtain ⟨q, _, h2, h3⟩ := in_lives hl
    obtain ⟨o, ho⟩ := Option.isSome_iff_exists.1 h2
    exact ⟨q, o, ho, h3⟩
  have hlt : ∀ q b, (s.sto.get q).isSome → L q = some b → b < w.heap.size := fun q b hq hb => by
    obtain ⟨o, ho⟩ := Option.isSome_iff_exists.1 hq
    exact h.block_lt ho hb
  have hout : ∀ q b, q ∉ ids → (s.sto.get q).isSome → L q = some b → ¬ Lives [[], inC s.sto ids] (inL ids L) b := fun q b hq hqs hb hl => by
    obtain ⟨p, hp, h2, h3⟩ := in_lives hl
    exact hq ((h.inj q p b hqs h2 hb h3) ▸ hp)
  have hheap : ∀ q b, q ∉ ids → (s.sto.get q).isSome → L q = some b → w'.heap[b]? = w.heap[b]? := fun q b hq hqs hb => t.keep b (hlt q b hqs hb) (hout q b hq hqs hb)
  have hzle : ZLe w w' Z Z' := fun b hb => ⟨t.zin b hb, t.keep b (h.dis b hb).1 fun hl => (h.dis b hb).2 (hinlive b hl)⟩
  generalize hL2 : (fun q : Id => if X ≠ [] ∧ q.1 = tt then L' (0, q.2) else L q) = L2
  have hL2a : ∀ q : Id, X ≠ [] → q.1 = tt → L2 q = L' (0, q.2) := fun q h1 h2 => by rw [← hL2]; simp [h1, h2]
  have hL2b : ∀ q : Id, ¬ (X ≠ [] ∧ q.1 = tt) → L2 q = L q := fun q h1 => by rw [← hL2]; simp only; rw [if_neg h1]
  have hnotslot : ∀ q, (sto.get q).isSome → ¬ (X ≠ [] ∧ q.1 = tt) := fun q hq ⟨h1, h2⟩ => by rw [hfree h1 q h2] at hq; cases hq
  have hmem : ∀ q ∈ ids, ∃ i : Nat, ids[i]? = some q := fun q hq => ⟨_, idx_get hq⟩
  -- names that the call knows
  have hren : ∀ r, (Sto.get [X, pars] r).isSome → Ren ⟨w', Z', L', Sto.get [X, pars]⟩ (cxOf w' Z' L2 fin) back r := by
    intro r hr
    obtain ⟨o, ho⟩ := Option.isSome_iff_exists.1 hr
    rcases out_get ho with ⟨h1, h2⟩ | ⟨h1, h2⟩
    · have hXne : X ≠ [] := by rintro rfl; simp [at?] at h2
      have hb : back r = (tt, r.2) := by rw [hback, h1]; simp
      have hg : fin.get (tt, r.2) = some (o.map back) := by rw [hfin, if_pos ⟨hXne, rfl⟩, h2]; rfl
      refine ⟨?_, fun _ => ?_, fun sz xs e => ?_⟩
      · show L2 (back r) = L' r
        rw [hb, hL2a _ hXne rfl]
        congr 1; exact Prod.ext h1.symm rfl
      · show (fin.get (back r)).isSome
        rw [hb, hg]; rfl
      · show fin.get (back r) = _
        have e' : Sto.get [X, pars] r = some (.rows sz xs) := e
        rw [ho] at e'; injection e' with e'
        rw [hb, hg, map_rows e']
    · have h3 := at?_some h2
      have h4 : r.2 < ids.length := by rw [hlen]; exact (List.getElem?_eq_some_iff.1 h3).1
      obtain ⟨q, hq⟩ : ∃ q, ids[r.2]? = some q := ⟨_, List.getElem?_eq_getElem h4⟩
      have hb : back r = q := by rw [hback, if_pos h1]; simp [List.getD, hq]
      have hsg : sto.get q = some (o.map back) := by rw [hsto2 _ _ hq, h2]; rfl
      have hns := hnotslot q (by simp [hsg])
      have hg : fin.get q = some ((o.map back).forget dead) := by rw [hfin, if_neg hns, hsg]; rfl
      refine ⟨?_, fun _ => ?_, fun sz xs e => ?_⟩
      · show L2 (back r) = L' r
        rw [hb, hL2b _ hns, ← hpar _ _ hq]
        congr 1; exact Prod.ext h1.symm rfl
      · show (fin.get (back r)).isSome
        rw [hb, hg]; rfl
      · show fin.get (back r) = _
        have e' : Sto.get [X, pars] r = some (.rows sz xs) := e
        rw [ho] at e'; injection e' with e'
        rw [hb, hg, forget_rows (map_rows e')]
  -- where what is there comes from
  have hfrom : ∀ q ob, fin.get q = some ob → (∃ r o, Sto.get [X, pars] r = some o ∧ back r = q ∧ L2 q = L' r ∧ (ob = o.map back ∨ ob = (o.map back).forget dead) ∧ (q ∈ ids → (X ≠ [] ∧ q.1 = tt) ∨ ids[r.2]? = some q ∧ r.1 = 1)) ∨
      (q ∉ ids ∧ ¬ (X ≠ [] ∧ q.1 = tt) ∧ L2 q = L q ∧ ∃ o, s.sto.get q = some o ∧ ob = o.forget dead) := by
    intro q ob hq
    rw [hfin] at hq
    by_cases hc : X ≠ [] ∧ q.1 = tt
    · rw [if_pos hc] at hq
      left
      cases ho : at? X q.2 with
      | none => simp [ho] at hq
      | some o =>
        simp [ho] at hq
        refine ⟨(0, q.2), o, ho, ?_, hL2a q hc.1 hc.2, .inl hq.symm, fun _ => .inl hc⟩
        rw [hback]
        simp [← hc.2]
    · rw [if_neg hc] at hq
      by_cases hm : q ∈ ids
      · left
        obtain ⟨i, hi⟩ := hmem q hm
        rw [hsto2 i q hi] at hq
        cases ho : at? pars i with
        | none => simp [ho] at hq
        | some o =>
          simp [ho] at hq
          refine ⟨(1, i), o, ho, ?_, ?_, .inr hq.symm, fun _ => .inr ⟨hi, rfl⟩⟩
          · rw [hback]; simp [hi]
          · rw [hL2b q hc, hpar i q hi]
      · right
        rw [hsto1 q hm] at hq
        cases ho : s.sto.get q with
        | none => simp [ho] at hq
        | some o => simp [ho] at hq; exact ⟨hm, hc, hL2b q hc, o, rfl, hq.symm⟩
  -- names that were there
  have hsame : ∀ r, (s.sto.get r).isSome → dead r = false → Same (cxOf w Z L s.sto) (cxOf w' Z' L2 fin) r := by
    intro r hr hd
    by_cases hm : r ∈ ids
    · obtain ⟨i, hi⟩ := hmem r hm
      have hsg : (sto.get r).isSome := by
        rw [hdead] at hd
        have hc : ids.contains r = true := by simpa using hm
        rw [hc, Bool.true_and] at hd
        cases hx : sto.get r with
        | none => simp [hx] at hd
        | some _ => rfl
      have hns := hnotslot r hsg
      rw [hsto2 i r hi] at hsg
      have hps : (Sto.get [X, pars] (1, i)).isSome := by rw [get2_1]; simpa using hsg
      obtain ⟨_, p1, p2, p3, p4⟩ := t.psame (1, i) (Nat.le_refl _) hps
      have hing : Sto.get [[], inC s.sto ids] (1, i) = (s.sto.get r).map (·.map fun r => (1, idx ids r)) := by rw [get2_1, inC_at, hi]
      refine ⟨hL2b r hns, fun _ => ?_, fun sz xs e => ?_, fun b hb hs' => ?_⟩
      · show (fin.get r).isSome
        rw [hfin, if_neg hns, hsto2 i r hi]
        simpa using hsg
      · have e' : s.sto.get r = some (.rows sz xs) := e
        obtain ⟨ys, y1, y2⟩ := p3 sz xs (by show Sto.get [[], inC s.sto ids] (1, i) = _; rw [hing, e']; rfl)
        have y1' : at? pars i = some (.rows sz ys) := y1
        refine ⟨ys, ?_, y2⟩
        show fin.get r = _
        rw [hfin, if_neg hns, hsto2 i r hi, y1']
        rfl
      · exact p4 b (by show inL ids L (1, i) = _; simpa [inL, hi] using hb) (by show (Sto.get [[], inC s.sto ids] (1, i)).isSome; rw [hing]; simpa using hr)
    · have hsg : (sto.get r).isSome := by rw [hsto1 r hm]; exact hr
      have hns := hnotslot r hsg
      refine ⟨hL2b r hns, fun _ => ?_, fun sz xs e => ⟨xs, ?_, rfl⟩, fun b hb hs' => blkSize_of_heap (hheap r b hm hr hb)⟩
      · show (fin.get r).isSome
        rw [hfin, if_neg hns]; simpa using hsg
      · have e' : s.sto.get r = some (.rows sz xs) := e
        show fin.get r = _
        rw [hfin, if_neg hns, hsto1 r hm, e']
        rfl
  have houtlive : ∀ b, Lives [X, pars] L' b → (∃ q ∈ ids, (s.sto.get q).isSome ∧ L q = some b) ∨ w.heap.size ≤ b := fun b hl => (t.lives b hl).imp in_lives id
  have hlives : ∀ b, Lives fin L2 b → Lives [X, pars] L' b ∨ ∃ q, q ∉ ids ∧ (s.sto.get q).isSome ∧ L q = some b := by
    intro b hl
    obtain ⟨q, ob, h1, h2⟩ := hl
    rcases hfrom q ob h1 with ⟨r, o, g1, g2, g3, _, _⟩ | ⟨g1, _, g2, o, g3, _⟩
    · exact .inl ⟨r, o, g1, by rw [← g3]; exact h2⟩
    · exact .inr ⟨q, g1, by simp [g3], by rw [← g2]; exact h2⟩
  refine ⟨L2, ⟨h.defers, ?_, ?_, ?_, ?_⟩, ⟨t.os, t.tape, t.output, t.size, ?_, ?_, t.zin, ?_, ?_, ?_⟩, ?_⟩
  · rw [henv]
    refine RVs_mono (c := cxOf w Z L s.sto) (c' := cxOf w' Z' L2 fin) hzle _ _ (fun q hq => ?_) (RVs_forget (p := dead) s.env _ h.env)
    exact hsame q (RVs_refs _ _ h.env q (refsL_of_forget s.env q hq)) (refsL_forget s.env q hq)
  · intro q ob hq
    rcases hfrom q ob hq with ⟨r, o, g1, g2, g3, g4, _⟩ | ⟨g1, gc, g2, o, g3, g4⟩
    · have hro := k.obj r o g1
      have := RO_map (w := w') (Z := Z') (L := L') (L' := L2) (g := Sto.get [X, pars]) (g' := fin.get) (f := back) (r := r) (r' := q) hro g3 (fun p hp => hren p (RO_refs hro p hp))
      rcases g4 with g4 | g4
      · rw [g4]; exact this
      · rw [g4]; exact RO_forget this
    · rw [g4]
      have hro := h.obj q o g3
      refine RO_mono (c := cxOf w Z L s.sto) (c' := cxOf w' Z' L2 fin) hzle g2 (fun b hb => hheap q b g1 (by simp [g3]) hb) (fun p hp => ?_) (RO_forget hro)
      cases o with
      | box cs =>
        have hp' : p ∈ AV.refsL (AV.forgetL dead cs) := by simpa [Obj.forget, Obj.refs] using hp
        exact hsame p (RO_refs hro p (by simpa [Obj.refs] using refsL_of_forget cs p hp')) (refsL_forget cs p hp')
      | rows sz xs => simp [Obj.forget, Obj.refs] at hp
  · intro q q' b hq hq' hb hb'
    obtain ⟨ob, ho⟩ := Option.isSome_iff_exists.1 hq
    obtain ⟨ob', ho'⟩ := Option.isSome_iff_exists.1 hq'
    have cross : ∀ r o p o', Sto.get [X, pars] r = some o → L' r = some b → p ∉ ids → s.sto.get p = some o' → L p = some b → False := by
      intro r o p o' g1 g2 g3 g4 g5
      rcases houtlive b ⟨r, o, g1, g2⟩ with ⟨x, x1, x2, x3⟩ | x
      · exact g3 ((h.inj p x b (by simp [g4]) x2 g5 x3) ▸ x1)
      · have := hlt p b (by simp [g4]) g5; omega
    rcases hfrom q ob ho with ⟨r, o, g1, g2, g3, _, _⟩ | ⟨g1, _, g2, o, g3, _⟩
    · rcases hfrom q' ob' ho' with ⟨r', o', g1', g2', g3', _, _⟩ | ⟨g1', _, g2', o', g3', _⟩
      · have := k.inj r r' b (by show (Sto.get [X, pars] r).isSome; simp [g1]) (by show (Sto.get [X, pars] r').isSome; simp [g1']) (g3 ▸ hb) (g3' ▸ hb')
        rw [← g2, ← g2', this]
      · exact (cross r o q' o' g1 (g3 ▸ hb) g1' g3' (g2' ▸ hb')).elim
    · rcases hfrom q' ob' ho' with ⟨r', o', g1', g2', g3', _, _⟩ | ⟨g1', _, g2', o', g3', _⟩
      · exact (cross r' o' q o g1' (g3' ▸ hb') g1 g3 (g2 ▸ hb)).elim
      · exact h.inj q q' b (by simp [g3]) (by simp [g3']) (g2 ▸ hb) (g2' ▸ hb')
  · intro b hb
    refine ⟨(k.dis b hb).1, fun hl => ?_⟩
    rcases hlives b hl with g | ⟨q, g1, g2, g3⟩
    · exact (k.dis b hb).2 g
    · rcases t.zout b hb with x | x | x
      · obtain ⟨o, ho⟩ := Option.isSome_iff_exists.1 g2
        exact (h.dis b x).2 ⟨q, o, ho, g3⟩
      · have := hlt q b g2 g3; omega
      · exact hout q b g1 g2 g3 x
  · intro b hb hnl
    exact t.keep b hb fun hl => hnl (hinlive b hl)
  · intro b hl
    rcases hlives b hl with g | ⟨q, g1, g2, g3⟩
    · exact (t.lives b g).imp (hinlive b) id
    · obtain ⟨o, ho⟩ := Option.isSome_iff_exists.1 g2
      exact .inl ⟨q, o, ho, g3⟩
  · intro b hb
    exact (t.zout b hb).imp id fun x => x.imp id (hinlive b)
  · intro r hr
    exact hL2b r fun ⟨h1, h2⟩ => by have := hX h1; omega
  · intro r hr hs'
    obtain ⟨ob, ho⟩ := Option.isSome_iff_exists.1 hs'
    have hslot : ¬ (X ≠ [] ∧ r.1 = tt) := fun ⟨h1, h2⟩ => by have := hX h1; omega
    have hsg : (sto.get r).isSome := by rw [hfin, if_neg hslot] at ho; cases hx : sto.get r with
      | none => simp [hx] at ho
      | some _ => rfl
    have hdd : dead r = false := by
      rw [hdead]
      cases hx : sto.get r with
      | none => simp [hx] at hsg
      | some _ => simp
    have hss : (s.sto.get r).isSome := by
      by_cases hm : r ∈ ids
      · exact hs r hm
      · rw [hsto1 r hm] at hsg; exact hsg
    exact ⟨hss, hsame r hss hdd⟩
  · have h1 := k.env
    simp only [RVs] at h1
    obtain ⟨v', vs', e1, h2, e2⟩ := h1
    subst e2
    have : v' = v := by have : [v] = [v'] := e1; injection this with this; exact this.symm
    subst this
    exact RV_map (w := w') (Z := Z') (L := L') (ob := Sto.get [X, pars]) ret _ (fun r hr => hren r (RV_refs _ _ h2 r hr)) h2

end
end Go.Vi
