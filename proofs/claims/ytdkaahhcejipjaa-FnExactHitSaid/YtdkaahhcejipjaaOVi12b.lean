/- A row that is owned is lent out of its place, and put back. -/
import Derived.Test.YtdkaahhcejipjaaOVi12a
set_option linter.unusedVariables false
set_option linter.unusedSimpArgs false
set_option linter.unnecessarySimpa false
set_option linter.unusedSectionVars false
namespace Go.Vi
open Go Go.RowKit
section
variable {P : Program} {call : FuncId → List AV → List (Option Obj) → Option CRes} {loop : Nat → St → Option (Out × St)}
variable {s : St} {a : Act} {w : World} {L : Loc} {Z : Nat → Prop}

theorem has_iff' {o : Obj} {L L' : Loc} {q r : Id} {b : Nat} (h1 : L q = L' r) (h2 : L.nest q = L'.nest r) : o.has L q b ↔ o.has L' r b := by
  unfold Obj.has
  rw [h1, h2]

/-- Nothing turns but names: two objects' places are told anew. -/
theorem RS.retell {np : Nat} {s s' : St} {L' : Loc} (h : RS s a w L Z) {r q : Id} (hrq : q ≠ r)
    (henv : RVs (cxOf w Z L' s'.sto) s'.env a.tmps.toList)
    (hobj : ∀ k ob, s'.sto.get k = some ob → RO (cxOf w Z L' s'.sto) k ob)
    (hfrom : ∀ k ob, s'.sto.get k = some ob → k ≠ r → k ≠ q → ∃ ob', s.sto.get k = some ob' ∧ ∀ b, ob.has L' k b → ob'.has L k b)
    (hsub : ∀ k ob b, s'.sto.get k = some ob → k = r ∨ k = q → ob.has L' k b → ∃ k' ob', (k' = r ∨ k' = q) ∧ s.sto.get k' = some ob' ∧ ob'.has L k' b)
    (hsep : ∀ ob ob' b, s'.sto.get r = some ob → s'.sto.get q = some ob' → ob.has L' r b → ob'.has L' q b → False)
    (hone : ∀ k ob b, s.sto.get k = some ob → ob.has L k b → k = r ∨ k = q → ∀ k' ob', s'.sto.get k' = some ob' → k' ≠ r → k' ≠ q → ¬ ob'.has L' k' b)
    (hpar : ∀ k : Id, np ≤ k.1 → L' k = L k) (hps : ∀ k : Id, np ≤ k.1 → (s'.sto.get k).isSome → (s.sto.get k).isSome ∧ Same (cxOf w Z L s.sto) (cxOf w Z L' s'.sto) k) :
    RS s' a w L' Z ∧ Tr np s.sto s'.sto w w L L' Z Z := by
  have hl : ∀ k ob b, s'.sto.get k = some ob → ob.has L' k b → Lives s.sto L b := fun k ob b h1 h2 => by
    by_cases hk : k = r ∨ k = q
    · obtain ⟨k', ob', _, m1, m2⟩ := hsub k ob b h1 hk h2
      exact ⟨k', ob', m1, m2⟩
    · obtain ⟨ob', m1, m2⟩ := hfrom k ob h1 (fun e => hk (.inl e)) (fun e => hk (.inr e))
      exact ⟨k, ob', m1, m2 b h2⟩
  have hlives : ∀ b, Lives s'.sto L' b → Lives s.sto L b := fun b ⟨k, ob, h1, h2⟩ => hl k ob b h1 h2
  refine ⟨⟨h.defers, henv, hobj, fun k k' b ob ob' h1 h2 h3 h4 => ?_, fun b hb => ⟨(h.dis b hb).1, fun hl => (h.dis b hb).2 (hlives b hl)⟩⟩,
    ⟨rfl, rfl, rfl, Nat.le_refl _, fun _ _ _ => rfl, fun b hb => .inl (hlives b hb), fun _ hz => hz, fun _ hz => .inl hz, hpar, hps⟩⟩
  by_cases c1 : k = r ∨ k = q
  · by_cases c2 : k' = r ∨ k' = q
    · rcases c1 with rfl | rfl <;> rcases c2 with rfl | rfl
      · rfl
      · exact (hsep ob ob' b h1 h2 h3 h4).elim
      · exact (hsep ob' ob b h2 h1 h4 h3).elim
      · rfl
    · obtain ⟨k2, ob2, m0, m1, m2⟩ := hsub k ob b h1 c1 h3
      exact (hone k2 ob2 b m1 m2 m0 k' ob' h2 (fun e => c2 (.inl e)) (fun e => c2 (.inr e)) h4).elim
  · by_cases c2 : k' = r ∨ k' = q
    · obtain ⟨k2, ob2, m0, m1, m2⟩ := hsub k' ob' b h2 c2 h4
      exact (hone k2 ob2 b m1 m2 m0 k ob h1 (fun e => c1 (.inl e)) (fun e => c1 (.inr e)) h3).elim
    · obtain ⟨o1, m1, m2⟩ := hfrom k ob h1 (fun e => c1 (.inl e)) (fun e => c1 (.inr e))
      obtain ⟨o2, m3, m4⟩ := hfrom k' ob' h2 (fun e => c2 (.inl e)) (fun e => c2 (.inr e))
      exact h.injH k k' b o1 o2 m1 m3 (m2 b h3) (m4 b h4)

/-- A row within an element is taken out, under a name of its own. -/
theorem RS.lend {np t : Nat} {s' : St} {sz esz : Elt} {xs ys : List D} {cs : List D} {i : Int} {off : Nat} {r : Id} (h : RS s a w L Z) (hr : s.sto.get r = some (.orows sz xs)) (hi : 0 ≤ i) (hx : xs[i.toNat]? = some (.agg cs)) (hcl : cs.length = sz.2) (hc : cs[off]? = some (.own esz ys)) (hpos : 0 < esz.2)
    {b : Nat} (hb : L r = some b) (hl : (⟨s.env, s.sto.put r (some (.hrows sz xs i off (t, 0) esz))⟩ : St).lay t [some (.orows esz ys)] = some s') (ht : t < np) :
    ∃ L' v, RS s' a w L' Z ∧ Tr np s.sto s'.sto w w L L' Z Z ∧ w.cell? ⟨b, i.toNat * sz.2 + off, none⟩ = some v ∧ RV (cxOf w Z L' s'.sto) (.arr (t, 0) esz none false) v := by
  obtain ⟨hlay, henv⟩ := lay_sto hl
  simp only at hlay henv
  have hputr : ∀ k, (s.sto.put r (some (.hrows sz xs i off (t, 0) esz))).get k = if k = r then some (.hrows sz xs i off (t, 0) esz) else s.sto.get k := fun k => by
    by_cases e : k = r
    · subst e; rw [if_pos rfl]; exact get_put_same _ hr
    · rw [if_neg e]; exact get_put_ne _ e
  have hrt : r.1 ≠ t := fun e => by
    have := lay_free hlay r e
    rw [hputr, if_pos rfl] at this
    cases this
  have hq : ((t, 0) : Id) ≠ r := fun e => hrt (by rw [← e])
  have hget : ∀ k, s'.sto.get k = if k.1 = t then (match [some (Obj.orows esz ys)][k.2]? with | some o => o | none => none) else if k = r then some (.hrows sz xs i off (t, 0) esz) else s.sto.get k := fun k => by
    rw [lay_get hlay]
    split
    · rfl
    · exact hputr k
  have hgq : s'.sto.get (t, 0) = some (.orows esz ys) := by rw [hget]; simp
  have hgr : s'.sto.get r = some (.hrows sz xs i off (t, 0) esz) := by rw [hget, if_neg hrt, if_pos rfl]
  have hgo : ∀ k ob, s'.sto.get k = some ob → k ≠ r → k ≠ (t, 0) → s.sto.get k = some ob ∧ k.1 ≠ t := fun k ob hk h1 h2 => by
    rw [hget] at hk
    split at hk
    · rename_i e
      cases hk2 : k.2 with
      | zero => exact (h2 (Prod.ext e hk2)).elim
      | succ n => simp [hk2] at hk
    · rename_i e
      first
        | exact ⟨hk, e⟩
        | (rw [if_neg h1] at hk; exact ⟨hk, e⟩)
  have hslot : ∀ k, (s.sto.get k).isSome → k.1 ≠ t := fun k hk e => by
    have := lay_free hlay k e
    rw [hputr] at this
    split at this
    · cases this
    · rw [this] at hk; cases hk
  -- what the element is
  have hro := h.obj r _ hr
  simp only [RO] at hro
  obtain ⟨vs, G, hheap, hcap, g3, g4, g5⟩ := hro.2 b hb
  obtain ⟨A, Fi, B, rfl, a1, a2, a3, a4⟩ := OEs_at g3 hx
  simp only [OE] at a2
  have hoff : off < cs.length := (List.getElem?_eq_some_iff.1 hc).1
  have hsplit : cs = cs.take off ++ .own esz ys :: cs.drop (off + 1) := by
    have := (split_at hc).1
    simpa using this
  have hpl : (cs.take off).length = off := by rw [List.length_take]; omega
  rw [hsplit] at a2
  obtain ⟨v1, v2, A1, F2, hseg, rfl, q1, q2, q3⟩ := OCs_append.1 a2
  simp only [OCs] at q3
  obtain ⟨v, v3, Fo, B1, rfl, rfl, q4, q5⟩ := q3
  rw [hpl] at q1
  have q5l := OCs_len q5
  rw [List.length_drop] at q5l
  rw [Nat.succ_mul] at a3 a4
  rw [Array.length_toList] at a4
  have hval : ∀ j, j < sz.2 → vs.toList[i.toNat * sz.2 + j]? = (v1 ++ v :: v3)[j]? := fun j hj => by
    rw [← hseg, List.getElem?_take, if_pos hj, List.getElem?_drop]
  have hv : vs[i.toNat * sz.2 + off]? = some v := by
    have := hval off (by omega)
    rw [List.getElem?_append_right (by omega), q1] at this
    simpa using this
  have hseg1 : (vs.toList.drop (i.toNat * sz.2)).take off = v1 := by
    have : ((vs.toList.drop (i.toNat * sz.2)).take sz.2).take off = v1 := by rw [hseg]; simp [← q1]
    rw [List.take_take, Nat.min_eq_left (by omega)] at this
    exact this
  have hseg3 : (vs.toList.drop (i.toNat * sz.2 + off + 1)).take (sz.2 - (off + 1)) = v3 := by
    have : ((vs.toList.drop (i.toNat * sz.2)).take sz.2).drop (off + 1) = v3 := by
      rw [hseg, List.drop_append, q1]
      simp [List.drop_eq_nil_of_le (show v1.length ≤ off + 1 by omega)]
    rw [List.drop_take, List.drop_drop] at this
    rw [Nat.add_assoc]
    exact this
  -- what is lent
  have q4' := q4
  simp only [OC] at q4'
  obtain ⟨va, vc, ⟨hva, hvc⟩, hcase⟩ := q4'
  have hnd := g4
  have hGl : ∀ k, k ∈ A ++ (A1 ++ (Fo ++ B1)) ++ B → (Obj.orows sz xs).has L r k := fun k hk => .inr ⟨rfl, (g5 k).2 hk⟩
  -- its places
  obtain ⟨nb, N, hN⟩ : ∃ (nb : Option Nat) (N : List Nat), (nb = none ∧ N = [] ∧ Fo = [] ∧ vc = 0 ∧ ys = []) ∨ ∃ b' vs', nb = some b' ∧ Fo = b' :: N ∧ va = some ⟨b', 0, none⟩ ∧ w.heap[b']? = some (.cells vs' esz.1 (0, 0)) ∧ vc * esz.2 = vs'.size ∧ ys.length * esz.2 ≤ vs'.size ∧ OEs w Z esz.2 ys vs'.toList N := by
    rcases hcase with ⟨e1, e2, e3⟩ | ⟨b', vs', F', e1, e2, e3, e4, _, e6, e7⟩
    · exact ⟨none, [], .inl ⟨rfl, rfl, e3, e1, e2⟩⟩
    · exact ⟨some b', F', .inr ⟨b', vs', rfl, e2, e1, e3, e4, e6, e7⟩⟩
  generalize hL' : (⟨fun k => if k = (t, 0) then nb else L k, fun k => if k = (t, 0) then (fun x => x ∈ N) else if k = r then (fun x => x ∈ A ++ A1 ++ B1 ++ B) else L.nest k⟩ : Loc) = L'
  have hLq : L' (t, 0) = nb := by rw [← hL']; simp
  have hLo : ∀ k, k ≠ (t, 0) → L' k = L k := fun k hk => by rw [← hL']; simp [hk]
  have hNq : L'.nest (t, 0) = fun x => x ∈ N := by rw [← hL']; simp
  have hNr : L'.nest r = fun x => x ∈ A ++ A1 ++ B1 ++ B := by rw [← hL']; simp [Ne.symm hq]
  have hNo : ∀ k, k ≠ (t, 0) → k ≠ r → L'.nest k = L.nest k := fun k h1 h2 => by rw [← hL']; simp [h1, h2]
  have hsame : ∀ k, (s.sto.get k).isSome → Same (cxOf w Z L s.sto) (cxOf w Z L' s'.sto) k := fun k hk => by
    have hkt := hslot k hk
    have hkq : k ≠ (t, 0) := fun e => hkt (by rw [e])
    refine ⟨hLo k hkq, fun _ => ?_, fun z zs hz => ⟨zs, ?_, rfl⟩, fun _ _ _ => rfl⟩
    · show (s'.sto.get k).isSome
      rw [hget, if_neg hkt]; split; · rfl
      · exact hk
    · show (s'.sto.get k).bind Obj.rw = _
      have hz' : (s.sto.get k).bind Obj.rw = some (z, zs) := hz
      rw [hget, if_neg hkt]
      split
      · rename_i e
        subst e
        rw [hr] at hz'
        exact hz'
      · exact hz'
  have hvarr : RV (cxOf w Z L' s'.sto) (.arr (t, 0) esz none false) v := by
    simp only [RV]
    refine ⟨va, ys.length, vc, ys, hva, ⟨?_, hvc⟩, fun e => (by cases e), by show (s'.sto.get (t, 0)).bind Obj.rw = _; rw [hgq]; rfl, fun _ => rfl, fun _ _ e => (by cases e), fun e => ?_, fun b' e => .inr ?_⟩
    · rcases hN with ⟨_, _, _, _, e⟩ | ⟨b', vs', _, _, _, _, e4, e5, _⟩
      · rw [e]; simp
      · exact Nat.le_of_mul_le_mul_right (by rw [e4]; exact e5) hpos
    · have e' : nb = none := by rw [← hLq]; exact e
      rcases hN with ⟨_, _, _, e4, _⟩ | ⟨b', vs', e1, _⟩
      · exact e4
      · rw [e'] at e1; cases e1
    · have e' : nb = some b' := by rw [← hLq]; exact e
      rcases hN with ⟨e1, _⟩ | ⟨b2, vs', e1, _, e3, e4, e5, _, _⟩
      · rw [e'] at e1; cases e1
      · rw [e'] at e1; injection e1 with e1; subst e1
        exact ⟨by rw [e3]; simp [rngOff], by simp only [rngOff, Nat.zero_add, blkSize, e4]; exact e5⟩
  have hFoN : ∀ x, x ∈ N → x ∈ Fo := fun x hx => by
    rcases hN with ⟨_, e, _⟩ | ⟨b', vs', _, e, _⟩
    · rw [e] at hx; cases hx
    · rw [e]; simp [hx]
  have hFob : ∀ x, nb = some x → x ∈ Fo := fun x hx => by
    rcases hN with ⟨e, _⟩ | ⟨b', vs', e, e2, _⟩
    · rw [hx] at e; cases e
    · rw [hx] at e; injection e with e; rw [e2, e]; simp
  have hFo : ∀ x ∈ Fo, x ≠ b ∧ x ∉ A ++ A1 ++ B1 ++ B := by
    simp only [List.nodup_cons, List.nodup_append, List.mem_append, not_or] at hnd
    obtain ⟨⟨⟨n1, n2, n3, n4⟩, n5⟩, ⟨⟨n6, ⟨n7, ⟨n8, n9, n10⟩, n11⟩, n12⟩, n13, n14⟩⟩ := hnd
    intro x hx
    refine ⟨fun e => n3 (e ▸ hx), fun hm => ?_⟩
    simp only [List.mem_append] at hm
    rcases hm with ((hm | hm) | hm) | hm
    · exact n12 x hm x (.inr (.inl hx)) rfl
    · exact n11 x hm x (.inl hx) rfl
    · exact n10 x hx x hm rfl
    · exact n14 x (.inr (.inr (.inl hx))) x hm rfl
  have hasq : ∀ k, (Obj.orows esz ys).has L' (t, 0) k → k ∈ Fo := fun k hk => by
    rcases hk with hk | ⟨_, hk⟩
    · rw [hLq] at hk; exact hFob k hk
    · rw [hNq] at hk; exact hFoN k hk
  have hasr : ∀ k, (Obj.hrows sz xs i off (t, 0) esz).has L' r k → k = b ∨ k ∈ A ++ A1 ++ B1 ++ B := fun k hk => by
    rcases hk with hk | ⟨_, hk⟩
    · rw [hLo r (Ne.symm hq), hb] at hk; injection hk with hk; exact .inl hk.symm
    · rw [hNr] at hk; exact .inr hk
  have holdr : ∀ k, k = b ∨ k ∈ A ++ (A1 ++ (Fo ++ B1)) ++ B → (Obj.orows sz xs).has L r k := fun k hk => by
    rcases hk with rfl | hk
    · exact .inl hb
    · exact hGl k hk
  have hql : (cs.take off).length + 1 + (cs.drop (off + 1)).length = sz.2 := by
    have aux : ∀ a b c : Nat, a < b → b = c → a + 1 + (b - (a + 1)) = c := by omega
    rw [hpl, List.length_drop]
    exact aux _ _ _ hoff hcl
  have hreto := RS.retell (np := np) (s' := s') (L' := L') h (r := r) (q := (t, 0)) hq
    (by
      rw [henv]
      exact RVs_mono (c := cxOf w Z L s.sto) (c' := cxOf w Z L' s'.sto) (ZLe.refl _ _) _ _ (fun k hk => hsame k (RVs_refs _ _ h.env k hk)) h.env)
    (fun k ob hk => by
      by_cases e1 : k = r
      · subst e1
        rw [hgr] at hk
        injection hk with hk
        subst hk
        simp only [RO]
        refine ⟨b, vs, cs.take off, ys, cs.drop (off + 1), A, A1, B1, B, v, by rw [hLo k (Ne.symm hq)]; exact hb, hheap, hcap, hi, by rw [← hsplit]; exact hx, hpl, hql, a1, by rw [hseg1]; exact q2, by rw [hseg3]; exact q5, ?_, hv, hvarr, hpos, ?_, fun x => by rw [hNr]⟩
        · rw [Nat.succ_mul]; exact a3
        · simp only [List.nodup_cons, List.nodup_append, List.mem_append, not_or] at hnd ⊢
          obtain ⟨⟨⟨n1, n2, n3, n4⟩, n5⟩, ⟨⟨n6, ⟨n7, ⟨n8, n9, n10⟩, n11⟩, n12⟩, n13, n14⟩⟩ := hnd
          refine ⟨⟨⟨⟨n1, n2⟩, n4⟩, n5⟩, ⟨⟨n6, n7, fun x hx y hy => n12 x hx y (.inl hy)⟩, n9, fun x hx y hy => ?_⟩, n13, fun x hx y hy => ?_⟩
          · rcases hx with hx | hx
            · exact n12 x hx y (.inr (.inr hy))
            · exact n11 x hx y (.inr hy)
          · rcases hx with (hx | hx) | hx
            · exact n14 x (.inl hx) y hy
            · exact n14 x (.inr (.inl hx)) y hy
            · exact n14 x (.inr (.inr (.inr hx))) y hy
      · by_cases e2 : k = (t, 0)
        · subst e2
          rw [hgq] at hk
          injection hk with hk
          subst hk
          simp only [RO]
          refine ⟨fun e => ?_, fun b' e => ?_⟩
          · have e' : nb = none := by rw [← hLq]; exact e
            rcases hN with ⟨_, e2, _, _, e5⟩ | ⟨b', vs', e1, _⟩
            · refine ⟨e5, fun x hx => ?_⟩
              have hx' : L'.nest (t, 0) x := hx
              rw [hNq, e2] at hx'
              cases hx'
            · rw [e'] at e1; cases e1
          · have e' : nb = some b' := by rw [← hLq]; exact e
            rcases hN with ⟨e1, _⟩ | ⟨b2, vs', e1, e2, e3, e4, e5, e6, e7⟩
            · rw [e'] at e1; cases e1
            · rw [e'] at e1; injection e1 with e1; subst e1
              refine ⟨vs', N, e4, e6, e7, ?_, fun x => by rw [hNq]⟩
              rw [← e2]
              simp only [List.nodup_cons, List.nodup_append] at hnd
              exact hnd.2.1.2.1.2.1.1
        · obtain ⟨m1, m2⟩ := hgo k ob hk e1 e2
          exact RO_mono (c := cxOf w Z L s.sto) (ZLe.refl _ _) (hLo k e2) (hNo k e2 e1) (fun _ _ => rfl) (fun p hp => hsame p (RO_refs (h.obj k ob m1) p hp)) (h.obj k ob m1))
    (fun k ob hk h1 h2 => ⟨ob, (hgo k ob hk h1 h2).1, fun x hx => (has_iff' (hLo k h2) (hNo k h2 h1)).1 hx⟩)
    (fun k ob x hk hkk hx => by
      rcases hkk with rfl | rfl
      · rw [hgr] at hk; injection hk with hk; subst hk
        refine ⟨k, _, .inl rfl, hr, holdr x ?_⟩
        rcases hasr x hx with e | e
        · exact .inl e
        · refine .inr ?_
          simp only [List.mem_append] at e ⊢
          rcases e with ((e | e) | e) | e
          · exact .inl (.inl e)
          · exact .inl (.inr (.inl e))
          · exact .inl (.inr (.inr (.inr e)))
          · exact .inr e
      · rw [hgq] at hk; injection hk with hk; subst hk
        refine ⟨r, _, .inl rfl, hr, holdr x (.inr ?_)⟩
        have := hasq x hx
        simp only [List.mem_append]
        exact .inl (.inr (.inr (.inl this))))
    (fun ob ob' x h1 h2 h3 h4 => by
      rw [hgr] at h1; injection h1 with h1; subst h1
      rw [hgq] at h2; injection h2 with h2; subst h2
      obtain ⟨m1, m2⟩ := hFo x (hasq x h4)
      rcases hasr x h3 with e | e
      · exact m1 e
      · exact m2 e)
    (fun k ob x h1 h2 hk k' ob' h3 h4 h5 h6 => by
      have hk : k = r := by
        rcases hk with e | e
        · exact e
        · exact (hslot k (by simp [h1]) (by rw [e])).elim
      subst hk
      have := hgo k' ob' h3 h4 h5
      exact h4 (h.injH k' k x ob' ob this.1 h1 ((has_iff' (hLo k' h5) (hNo k' h5 h4)).1 h6) h2))
    (fun k hk => hLo k (fun e => by rw [e] at hk; omega))
    (fun k hk hs => by
      have hkq : k ≠ (t, 0) := fun e => by rw [e] at hk; omega
      have : (s.sto.get k).isSome := by
        by_cases e : k = r
        · rw [e, hr]; rfl
        · obtain ⟨ob, ho⟩ := Option.isSome_iff_exists.1 hs
          rw [(hgo k ob ho e hkq).1]; rfl
      exact ⟨this, hsame k this⟩)
  refine ⟨L', v, hreto.1, hreto.2, ?_, hvarr⟩
  simp only [World.cell?, hheap]
  exact hv


theorem seg_split {l : List Value} {n off : Nat} {v : Value} (hv : l[off]? = some v) (hn : off < n) : l.take n = l.take off ++ v :: (l.drop (off + 1)).take (n - (off + 1)) := by
  obtain ⟨h1, h2⟩ := List.getElem?_eq_some_iff.1 hv
  have e : n = off + ((n - (off + 1)) + 1) := by omega
  rw [e, List.take_add, List.drop_eq_getElem_cons h1, h2, List.take_succ_cons]
  congr 3
  omega

/-- What was lent is put back. -/
theorem RS.unlend {np : Nat} {sz esz : Elt} {xs ys cs cs' : List D} {i : Int} {off : Nat} {r q : Id} (h : RS s a w L Z) (hr : s.sto.get r = some (.hrows sz xs i off q esz)) (hq : s.sto.get q = some (.orows esz ys))
    (hx : xs[i.toNat]? = some (.agg cs)) (hl : Go.Vi.lay cs off [.own esz ys] = some cs') :
    ∃ L', RS ((⟨s.env, s.sto.put r (some (.orows sz (xs.set i.toNat (.agg cs'))))⟩ : St).kill q) a w L' Z ∧ Tr np s.sto ((⟨s.env, s.sto.put r (some (.orows sz (xs.set i.toNat (.agg cs'))))⟩ : St).kill q).sto w w L L' Z Z := by
  have hqr : q ≠ r := fun e => by rw [e, hr] at hq; injection hq with hq; cases hq
  have hro := h.obj r _ hr
  simp only [RO] at hro
  obtain ⟨b, vs, pre, ys0, post, A1, A2, B1, B2, v, h1, h2, h3, h4, h5, h6, h7, h8, h9, h10, h11, h12, h13, h14, h16, h17⟩ := hro
  have hcs : cs = pre ++ .own esz ys0 :: post := by rw [h5] at hx; injection hx with hx; injection hx with hx; exact hx.symm
  have hcs' : cs' = pre ++ .own esz ys :: post := by
    rw [(lay_some hl).2, hcs, ← h6]
    simp
  have hi : i.toNat < xs.length := (List.getElem?_eq_some_iff.1 h5).1
  have hroq := h.obj q _ hq
  simp only [RO] at hroq
  -- what comes back
  simp only [RV] at h13
  obtain ⟨va, n, cap, zs, p1, ⟨p2, p3⟩, _, p4, p5, _, p7, p8⟩ := h13
  have p4' : (s.sto.get q).bind Obj.rw = some (esz, zs) := p4
  rw [hq] at p4'
  injection p4' with p4'
  injection p4' with _ p4'
  subst p4'
  have p5' := p5 trivial
  subst p5'
  obtain ⟨Fq, hoc, hFq, hFn⟩ : ∃ Fq, OC w Z (.own esz ys) v Fq ∧ (∀ k, k ∈ Fq → (Obj.orows esz ys).has L q k) ∧ Fq.Nodup := by
    cases hLq : L q with
    | none =>
      refine ⟨[], ?_, fun k hk => (by cases hk), List.nodup_nil⟩
      simp only [OC]
      exact ⟨va, cap, ⟨p1, p3⟩, .inl ⟨p7 hLq, (hroq.1 hLq).1, trivial⟩⟩
    | some b' =>
      obtain ⟨vs', F', m1, m2, m3, m4, m5⟩ := hroq.2 b' hLq
      refine ⟨b' :: F', ?_, fun k hk => ?_, m4⟩
      · simp only [OC]
        rcases p8 b' hLq with ⟨_, k⟩ | ⟨k1, k2⟩
        · exact (k rfl).elim
        · refine ⟨va, cap, ⟨p1, p3⟩, .inr ⟨b', vs', F', by simpa [rngOff] using k1, rfl, m1, ?_, h14, m2, m3⟩⟩
          have k2' : (rngOff none + cap) * esz.2 = blkSize w b' := k2
          simpa [rngOff, blkSize, m1] using k2'
      · rcases List.mem_cons.1 hk with rfl | hk
        · exact .inl hLq
        · exact .inr ⟨rfl, (m5 k).2 hk⟩
  have hold : ∀ k, k = b ∨ k ∈ A1 ++ A2 ++ B1 ++ B2 → (Obj.hrows sz xs i off q esz).has L r k := fun k hk => by
    rcases hk with rfl | hk
    · exact .inl h1
    · exact .inr ⟨rfl, (h17 k).2 hk⟩
  have hdis : ∀ k, k ∈ Fq → k = b ∨ k ∈ A1 ++ A2 ++ B1 ++ B2 → False := fun k hk hk2 => hqr (h.injH q r k _ _ hq hr (hFq k hk) (hold k hk2))
  generalize hL' : (⟨L.main, fun k => if k = r then (fun x => x ∈ A1 ++ (A2 ++ (Fq ++ B1)) ++ B2) else L.nest k⟩ : Loc) = L'
  have hLm : ∀ k, L' k = L k := fun k => by rw [← hL']
  have hNr : L'.nest r = fun x => x ∈ A1 ++ (A2 ++ (Fq ++ B1)) ++ B2 := by rw [← hL']; simp
  have hNo : ∀ k, k ≠ r → L'.nest k = L.nest k := fun k h1 => by rw [← hL']; simp [h1]
  generalize hs' : (⟨s.env, s.sto.put r (some (.orows sz (xs.set i.toNat (.agg cs'))))⟩ : St).kill q = s'
  have hget : ∀ k, s'.sto.get k = if k = q then none else if k = r then some (.orows sz (xs.set i.toNat (.agg cs'))) else (s.sto.get k).map (·.forget (· == q)) := fun k => by
    rw [← hs', kill_get]
    split
    · rfl
    · by_cases e : k = r
      · subst e; rw [if_pos rfl, get_put_same _ hr]; rfl
      · rw [if_neg e, get_put_ne _ e]
  have henv : s'.env = AV.forgetL (· == q) s.env := by rw [← hs']; rfl
  have hgo : ∀ k ob, s'.sto.get k = some ob → k ≠ r → k ≠ q → ∃ o, s.sto.get k = some o ∧ ob = o.forget (· == q) := fun k ob hk e1 e2 => by
    rw [hget, if_neg e2, if_neg e1] at hk
    cases h3 : s.sto.get k with
    | none => simp [h3] at hk
    | some o => simp [h3] at hk; exact ⟨o, rfl, hk.symm⟩
  have hsame : ∀ k, k ≠ q → Same (cxOf w Z L s.sto) (cxOf w Z L' s'.sto) k := fun k hk => by
    refine ⟨hLm k, fun hs => ?_, fun z zs hz => ?_, fun _ _ _ => rfl⟩
    · show (s'.sto.get k).isSome
      rw [hget, if_neg hk]
      split
      · rfl
      · have hs' : (s.sto.get k).isSome := hs
        simpa using hs'
    · have hz' : (s.sto.get k).bind Obj.rw = some (z, zs) := hz
      show ∃ ys, (s'.sto.get k).bind Obj.rw = some (z, ys) ∧ ys.length = zs.length
      rw [hget, if_neg hk]
      by_cases e : k = r
      · rw [if_pos e]
        rw [e, hr] at hz'
        simp only [Option.bind_some, Obj.rw] at hz' ⊢
        injection hz' with hz'
        injection hz' with e1 e2
        subst e1; subst e2
        exact ⟨_, rfl, by simp⟩
      · rw [if_neg e]
        cases h3 : s.sto.get k with
        | none => simp [h3] at hz'
        | some o => simp only [h3, Option.bind_some] at hz'; exact ⟨zs, by simp [Obj.rw_forget, hz'], rfl⟩
  have hlenN : (i.toNat + 1) * sz.2 ≤ vs.toList.length := Nat.le_trans (Nat.mul_le_mul_right _ hi) (by simpa using h3)
  have hoff : off < sz.2 := by omega
  refine ⟨L', ?_⟩
  refine RS.retell (np := np) (s' := s') (L' := L') h (r := r) (q := q) hqr ?_ ?_ ?_ ?_ ?_ ?_ (fun k _ => hLm k) ?_
  · rw [henv]
    refine RVs_mono (c := cxOf w Z L s.sto) (c' := cxOf w Z L' s'.sto) (ZLe.refl _ _) _ _ (fun k hk => hsame k ?_) (RVs_forget (p := (· == q)) s.env _ h.env)
    have := refsL_forget s.env k hk
    simpa using this
  · intro k ob hk
    by_cases e2 : k = q
    · rw [hget, if_pos e2] at hk; cases hk
    by_cases e1 : k = r
    · subst e1
      rw [hget, if_neg e2, if_pos rfl] at hk
      injection hk with hk
      subst hk
      simp only [RO]
      refine ⟨fun e => (by rw [hLm, h1] at e; cases e), fun b' e => ?_⟩
      rw [hLm, h1] at e
      injection e with e
      subst e
      refine ⟨vs, A1 ++ (A2 ++ (Fq ++ B1)) ++ B2, h2, by simpa using h3, ?_, ?_, fun k => by rw [hNr]⟩
      · refine OEs_put hi h8 ?_ h11 hlenN
        simp only [OE]
        rw [hcs', seg_split (v := v) (off := off) (by rw [List.getElem?_drop]; simpa using h12) hoff]
        refine OCs_append.2 ⟨_, _, A2, Fq ++ B1, rfl, rfl, ?_, h9, ?_⟩
        · rw [List.length_take, List.length_drop]
          rw [Nat.succ_mul] at hlenN
          omega
        · simp only [OCs]
          refine ⟨v, _, Fq, B1, rfl, rfl, hoc, ?_⟩
          rw [List.drop_drop]
          exact h10
      · have hn := h16
        simp only [List.nodup_cons, List.nodup_append, List.mem_append, not_or] at hn ⊢
        obtain ⟨⟨⟨⟨n1, n2⟩, n3⟩, n4⟩, ⟨⟨⟨n5, n6, n7⟩, n8, n9⟩, n10, n11⟩⟩ := hn
        have d0 : b ∉ Fq := fun hk => hdis b hk (.inl rfl)
        have d1 : ∀ x ∈ Fq, ∀ y ∈ A1, x ≠ y := fun x hx y hy e => hdis x hx (.inr (by rw [e]; simp [hy]))
        have d2 : ∀ x ∈ Fq, ∀ y ∈ A2, x ≠ y := fun x hx y hy e => hdis x hx (.inr (by rw [e]; simp [hy]))
        have d3 : ∀ x ∈ Fq, ∀ y ∈ B1, x ≠ y := fun x hx y hy e => hdis x hx (.inr (by rw [e]; simp [hy]))
        have d4 : ∀ x ∈ Fq, ∀ y ∈ B2, x ≠ y := fun x hx y hy e => hdis x hx (.inr (by rw [e]; simp [hy]))
        refine ⟨⟨⟨n1, n2, d0, n3⟩, n4⟩, ⟨⟨n5, ⟨n6, ⟨hFn, n8, fun x hx y hy => d3 x hx y hy⟩, fun x hx y hy => ?_⟩, fun x hx y hy => ?_⟩, n10, fun x hx y hy => ?_⟩⟩
        · rcases hy with hy | hy
          · exact fun e => d2 y hy x hx e.symm
          · exact n9 x (.inr hx) y hy
        · rcases hy with hy | hy | hy
          · exact n7 x hx y hy
          · exact fun e => d1 y hy x hx e.symm
          · exact n9 x (.inl hx) y hy
        · rcases hx with hx | hx | hx | hx
          · exact n11 x (.inl (.inl hx)) y hy
          · exact n11 x (.inl (.inr hx)) y hy
          · exact d4 x hx y hy
          · exact n11 x (.inr hx) y hy
    · obtain ⟨o, m1, rfl⟩ := hgo k ob hk e1 e2
      refine RO_mono (c := cxOf w Z L s.sto) (c' := cxOf w Z L' s'.sto) (ZLe.refl _ _) (hLm k) (hNo k e1) (fun _ _ => rfl) (fun p hp => hsame p ?_) (RO_forget (h.obj k o m1))
      have : (p == q) = false := Obj.refs_forget o p hp
      simpa using this
  · intro k ob hk e1 e2
    obtain ⟨o, m1, rfl⟩ := hgo k ob hk e1 e2
    exact ⟨o, m1, fun x hx => Obj.has_forget ((has_iff' (hLm k) (hNo k e1)).1 hx)⟩
  · intro k ob x hk hkk hx
    by_cases e2 : k = q
    · rw [hget, if_pos e2] at hk; cases hk
    have e1 : k = r := hkk.resolve_right e2
    subst e1
    rw [hget, if_neg e2, if_pos rfl] at hk
    injection hk with hk
    subst hk
    rcases hx with hx | ⟨_, hx⟩
    · rw [hLm, h1] at hx
      injection hx with hx
      exact ⟨k, _, .inl rfl, hr, hold x (.inl hx.symm)⟩
    · rw [hNr] at hx
      by_cases hf : x ∈ Fq
      · exact ⟨q, _, .inr rfl, hq, hFq x hf⟩
      · refine ⟨k, _, .inl rfl, hr, hold x (.inr ?_)⟩
        simp only [List.mem_append] at hx ⊢
        rcases hx with (hx | hx | hx | hx) | hx
        · exact .inl (.inl (.inl hx))
        · exact .inl (.inl (.inr hx))
        · exact (hf hx).elim
        · exact .inl (.inr hx)
        · exact .inr hx
  · intro ob ob' x m1 m2
    rw [hget, if_pos rfl] at m2; cases m2
  · intro k ob x m1 m2 m3 k' ob' m4 m5 m6 m7
    obtain ⟨o, m8, rfl⟩ := hgo k' ob' m4 m5 m6
    have := h.injH k' k x o ob m8 m1 (Obj.has_forget ((has_iff' (hLm k') (hNo k' m5)).1 m7)) m2
    rcases m3 with e | e
    · exact m5 (this.trans e)
    · exact m6 (this.trans e)
  · intro k _ hs
    have hkq : k ≠ q := fun e => by rw [hget, if_pos e] at hs; cases hs
    refine ⟨?_, hsame k hkq⟩
    by_cases e : k = r
    · rw [e, hr]; rfl
    · rw [hget, if_neg hkq, if_neg e] at hs
      simpa using hs

end
end Go.Vi
