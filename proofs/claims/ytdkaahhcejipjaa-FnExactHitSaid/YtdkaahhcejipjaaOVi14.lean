/- Calls: names handed over and back. -/
import Derived.Test.YtdkaahhcejipjaaOVi13
set_option linter.unusedVariables false
set_option linter.unusedSimpArgs false
set_option linter.unnecessarySimpa false
set_option linter.unusedSectionVars false
namespace Go.Vi
open Go Go.RowKit

/-! ### renaming -/

def Ren (c c' : Cx) (f : Id → Id) (r : Id) : Prop :=
  c'.L (f r) = c.L r ∧ ((c.obj r).isSome → (c'.obj (f r)).isSome) ∧ ∀ sz xs, (c.obj r).bind Obj.rw = some (sz, xs) → (c'.obj (f r)).bind Obj.rw = some (sz, xs)

mutual
theorem RV_map {w : World} {Z : Nat → Prop} {L L' : Loc} {ob ob' : Id → Option Obj} {f : Id → Id} : ∀ (a : AV) (v : Value), (∀ r ∈ a.refs, Ren ⟨w, Z, L, ob⟩ ⟨w, Z, L', ob'⟩ f r) → RV ⟨w, Z, L, ob⟩ a v → RV ⟨w, Z, L', ob'⟩ (a.map f) v
  | .undef, v, _, h => by simp only [AV.map, RV]
  | .bare, v, _, h => by simpa only [AV.map, RV] using h
  | .d x, v, _, h => by simpa only [AV.map, RV] using h
  | .agg as, v, hr, h => by
    simp only [AV.map, RV] at h ⊢
    obtain ⟨vs, h1, h2⟩ := h
    exact ⟨vs, h1, RVs_map as vs (by simpa [AV.refs] using hr) h2⟩
  | .tup as, v, hr, h => by
    simp only [AV.map, RV] at h ⊢
    obtain ⟨vs, h1, h2⟩ := h
    exact ⟨vs, h1, RVs_map as vs (by simpa [AV.refs] using hr) h2⟩
  | .nilp, v, _, h => by simpa only [AV.map, RV] using h
  | .emp, v, _, h => by simpa only [AV.map, RV] using h
  | .ptr r off, v, hr, h => by
    simp only [AV.map, RV] at h ⊢
    obtain ⟨b, h1, h2, h3⟩ := h
    obtain ⟨k1, k2, _⟩ := hr r (by simp [AV.refs])
    exact ⟨b, k2 h1, k1.trans h2, h3⟩
  | .prow r sz i off, v, hr, h => by
    simp only [AV.map, RV] at h ⊢
    obtain ⟨b, h1, h2, h3⟩ := h
    obtain ⟨k1, k2, _⟩ := hr r (by simp [AV.refs])
    exact ⟨b, k2 h1, k1.trans h2, h3⟩
  | .sp cs off, v, _, h => by simpa only [AV.map, RV] using h
  | .arr r sz g full, v, hr, h => by
    simp only [AV.map, RV] at h ⊢
    obtain ⟨a, n, cap, xs, h1, h2, h3, h4, h5, h6, h7, h8⟩ := h
    obtain ⟨k1, _, k3⟩ := hr r (by simp [AV.refs])
    exact ⟨a, n, cap, xs, h1, h2, h3, k3 sz xs h4, h5, h6, fun e => h7 (k1.symm.trans e), fun b e => h8 b (k1.symm.trans e)⟩
  | .fn g as, v, hr, h => by
    simp only [AV.map, RV] at h ⊢
    obtain ⟨vs, h1, h2⟩ := h
    exact ⟨vs, h1, RVs_map as vs (by simpa [AV.refs] using hr) h2⟩
theorem RVs_map {w : World} {Z : Nat → Prop} {L L' : Loc} {ob ob' : Id → Option Obj} {f : Id → Id} : ∀ (as : List AV) (vs : List Value), (∀ r ∈ AV.refsL as, Ren ⟨w, Z, L, ob⟩ ⟨w, Z, L', ob'⟩ f r) → RVs ⟨w, Z, L, ob⟩ as vs → RVs ⟨w, Z, L', ob'⟩ (AV.mapL f as) vs
  | [], vs, _, h => by simpa only [AV.mapL, RVs] using h
  | a :: as, vs, hr, h => by
    simp only [AV.mapL, RVs] at h ⊢
    obtain ⟨v, vs', h1, h2, h3⟩ := h
    exact ⟨v, vs', h1, RV_map a v (fun r hm => hr r (by simp [AV.refsL, hm])) h2, RVs_map as vs' (fun r hm => hr r (by simp [AV.refsL, hm])) h3⟩
end

theorem RO_map {w : World} {Z : Nat → Prop} {L L' : Loc} {g g' : Id → Option Obj} {f : Id → Id} {r r' : Id} {ob : Obj} (h : RO ⟨w, Z, L, g⟩ r ob) (hL : L' r' = L r) (hN : ob.deep = true → L'.nest r' = L.nest r)
    (hr : ∀ q ∈ ob.refs, Ren ⟨w, Z, L, g⟩ ⟨w, Z, L', g'⟩ f q) : RO ⟨w, Z, L', g'⟩ r' (ob.map f) := by
  cases ob with
  | box as =>
    simp only [Obj.map, RO] at h ⊢
    obtain ⟨b, vs, ty, h1, h2, h3⟩ := h
    exact ⟨b, vs, ty, hL.trans h1, h2, RVs_map as _ hr h3⟩
  | rows sz xs =>
    simp only [Obj.map, RO] at h ⊢
    rw [hL]
    exact h
  | gone sz xs =>
    simp only [Obj.map, RO] at h ⊢
    rw [hL]
    exact h
  | orows sz xs =>
    simp only [Obj.map, RO] at h ⊢
    rw [hL, hN rfl]
    exact h
  | hrows sz xs i off q esz =>
    simp only [Obj.map, RO] at h ⊢
    rw [hL, hN rfl]
    obtain ⟨b, vs, pre, d, post, A1, A2, B1, B2, v, h1, h2, h3, h4, h5, h6, h7, h8, h9, h10, h11, h12, h13, h14, h16, h17⟩ := h
    exact ⟨b, vs, pre, d, post, A1, A2, B1, B2, v, h1, h2, h3, h4, h5, h6, h7, h8, h9, h10, h11, h12, RV_map (.arr q esz none false) v (fun k hk => hr k (by simpa [AV.refs, Obj.refs] using hk)) h13, h14, h16, h17⟩

/-! ### what is reached -/

theorem reach_sound {s : Sto} : ∀ (n : Nat) (todo acc ids : List Id), reach s n todo acc = some ids → acc.Nodup → (∀ r ∈ acc, (s.get r).isSome) → (∀ r ∈ acc, ∀ ob, s.get r = some ob → ∀ q ∈ ob.refs, q ∈ acc ∨ q ∈ todo) →
    ids.Nodup ∧ (∀ r ∈ ids, (s.get r).isSome) ∧ (∀ r ∈ todo, r ∈ ids) ∧ (∀ r ∈ acc, r ∈ ids) ∧ ∀ r ∈ ids, ∀ ob, s.get r = some ob → ∀ q ∈ ob.refs, q ∈ ids
  | n, [], acc, ids, e, h1, h2, h3 => by
    simp only [reach] at e
    injection e with e
    subst e
    exact ⟨h1, h2, by simp, fun r hr => hr, fun r hr ob ho q hq => by simpa using h3 r hr ob ho q hq⟩
  | 0, _ :: _, acc, ids, e, _, _, _ => by simp [reach] at e
  | n + 1, r :: todo, acc, ids, e, h1, h2, h3 => by
    simp only [reach] at e
    split at e
    · rename_i hc
      have hc' : r ∈ acc := by simpa using hc
      obtain ⟨k1, k2, k3, k4, k5⟩ := reach_sound n todo acc ids e h1 h2 (fun q hq ob ho p hp => by
        rcases h3 q hq ob ho p hp with m | m
        · exact .inl m
        · rcases List.mem_cons.1 m with m | m
          · subst m; exact .inl hc'
          · exact .inr m)
      exact ⟨k1, k2, fun q hq => by
        rcases List.mem_cons.1 hq with m | m
        · subst m; exact k4 _ hc'
        · exact k3 q m, k4, k5⟩
    · rename_i hc
      have hc' : r ∉ acc := by simpa using hc
      split at e
      case h_2 => cases e
      case h_1 ob hob =>
        obtain ⟨k1, k2, k3, k4, k5⟩ := reach_sound n (ob.refs ++ todo) (acc ++ [r]) ids e (by
          rw [List.nodup_append]
          exact ⟨h1, by simp, fun a ha b hb => by simp at hb; subst hb; exact fun e => hc' (e ▸ ha)⟩) (fun q hq => by
          rcases List.mem_append.1 hq with m | m
          · exact h2 q m
          · simp at m; subst m; simp [hob]) (fun q hq ob' ho p hp => by
          rcases List.mem_append.1 hq with m | m
          · rcases h3 q m ob' ho p hp with x | x
            · exact .inl (List.mem_append.2 (.inl x))
            · rcases List.mem_cons.1 x with x | x
              · subst x; exact .inl (by simp)
              · exact .inr (List.mem_append.2 (.inr x))
          · simp at m; subst m
            rw [hob] at ho; injection ho with ho; subst ho
            exact .inr (List.mem_append.2 (.inl hp)))
        exact ⟨k1, k2, fun q hq => by
          rcases List.mem_cons.1 hq with m | m
          · subst m; exact k4 _ (by simp)
          · exact k3 q (List.mem_append.2 (.inr m)), fun q hq => k4 q (List.mem_append.2 (.inl hq)), k5⟩

theorem idx_get {ids : List Id} {r : Id} (h : r ∈ ids) : ids[idx ids r]? = some r := by
  unfold idx
  have h1 : ids.findIdx (· == r) < ids.length := List.findIdx_lt_length_of_exists ⟨r, h, by simp⟩
  have h2 := List.findIdx_getElem (w := h1)
  rw [List.getElem?_eq_getElem h1]
  simpa using h2

theorem idx_of {ids : List Id} (hn : ids.Nodup) {i : Nat} {r : Id} (h : ids[i]? = some r) : idx ids r = i := by
  have h1 := idx_get (List.mem_of_getElem? h)
  exact (List.getElem?_inj (List.getElem?_eq_some_iff.1 h1).1 hn).1 (h1.trans h.symm)

theorem wrBack_get {f : Id → Id} : ∀ {ids : List Id} {obs : List (Option Obj)} {s s' : Sto}, wrBack s f ids obs = some s' → ids.Nodup → (∀ r ∈ ids, (s.get r).isSome) →
    ids.length = obs.length ∧ (∀ q, q ∉ ids → s'.get q = s.get q) ∧ ∀ (i : Nat) (r : Id), ids[i]? = some r → s'.get r = (match obs[i]? with | some o => Option.map (Obj.map f) o | none => none)
  | [], [], s, s', e, _, _ => by simp only [wrBack] at e; injection e with e; subst e; simp
  | r :: ids, ob :: obs, s, s', e, hn, hs => by
    simp only [wrBack] at e
    obtain ⟨hn1, hn2⟩ := List.nodup_cons.1 hn
    obtain ⟨o, ho⟩ := Option.isSome_iff_exists.1 (hs r (by simp))
    obtain ⟨k1, k2, k3⟩ := wrBack_get e hn2 (fun q hq => by
      rw [get_put_ne _ (by rintro rfl; exact hn1 hq)]
      exact hs q (by simp [hq]))
    refine ⟨by simp [k1], fun q hq => ?_, fun i q hq => ?_⟩
    · rw [k2 q (fun m => hq (by simp [m])), get_put_ne _ (fun e => hq (by simp [e]))]
    · cases i with
      | zero =>
        simp at hq
        subst hq
        rw [k2 _ hn1, get_put_same _ ho]
        simp
      | succ i => simp at hq ⊢; exact k3 i q hq
  | [], _ :: _, _, _, e, _, _ => by simp [wrBack] at e
  | _ :: _, [], _, _, e, _, _ => by simp [wrBack] at e

/-! ### what is handed for the time of one call -/

section
variable {P : Program} {call : FuncId → List AV → List (Option Obj) → Option CRes} {loop : Nat → St → Option (Out × St)}

mutual
theorem snap_sound {w : World} {Z Zc : Nat → Prop} {L : Loc} {s : Sto} (hobj : ∀ r ob, s.get r = some ob → RO (cxOf w Z L s) r ob) (hz : ∀ b, Z b → Zc b) : ∀ (x : AV) (v : Value) (x' : AV),
    RV (cxOf w Z L s) x v → (∀ r ∈ x.refs, ∀ ob, s.get r = some ob → ∀ b, ob.has L r b → Zc b) → snap (real call loop) s x = some x' → x'.refs = [] → ∀ L' g, RV ⟨w, Zc, L', g⟩ x' v
  | .emp, v, x', hv, _, e, _, L', g => by
    simp only [snap] at e; injection e with e; subst e
    simp only [RV] at hv; obtain ⟨A, h1⟩ := hv
    simp only [RV, RD]
    exact ⟨A, 0, by rw [h1]; rfl, Nat.le_refl _, .inl trivial⟩
  | .arr r sz gg u, v, x', hv, hr, e, _, L', g => by
    simp only [snap] at e
    split at e
    case h_1 esz xs hg =>
      cases gg with
      | some p => cases e
      | none =>
        simp only at e
        injection e with e; subst e
        simp only [RV]
        exact orows_data hz hg (hobj r _ hg) (hr r (by simp [AV.refs]) _ hg) hv
    case h_2 hnot =>
     split at e
     case h_2 => cases e
     case h_1 xs hc =>
      injection e with e; subst e
      obtain ⟨A, cap, h1, h2, h3⟩ := content_sound hobj hv hc
      simp only [RV, RD]
      refine ⟨A, cap, by rw [h1], h2, h3.imp id ?_⟩
      rintro ⟨b, o, z, h4, h5, h6⟩
      refine ⟨b, o, z, h4, ?_, Rows_mono (w := w) (w' := w) (Z := Z) (fun b hb => ⟨hz b hb, rfl⟩) rfl _ _ _ h5⟩
      rcases h6 with h6 | ⟨r', z', g', u', ob', e1, e2, e3⟩
      · exact hz b h6
      · injection e1 with e1; subst e1; exact hr r (by simp [AV.refs]) ob' e2 b (.inl e3)
  | .agg cs, v, x', hv, hr, e, he, L', g => by
    simp only [snap] at e
    split at e
    case h_2 => cases e
    case h_1 ds hc =>
      injection e with e; subst e
      simp only [RV] at hv ⊢
      obtain ⟨vs, h1, h2⟩ := hv
      exact ⟨vs, h1, snapL_sound hobj hz cs vs ds h2 (by simpa [AV.refs] using hr) hc (by simpa [AV.refs] using he) L' g⟩
  | .undef, v, x', hv, _, e, he, L', g => by
    simp only [snap] at e; injection e with e; subst e; simp only [RV]
  | .bare, v, x', hv, _, e, he, L', g => by
    simp only [snap] at e; injection e with e; subst e; simpa only [RV] using hv
  | .d y, v, x', hv, _, e, he, L', g => by
    simp only [snap] at e; injection e with e; subst e
    exact RV_mono (c := cxOf w Z L s) (c' := ⟨w, Zc, L', g⟩) (fun b hb => ⟨hz b hb, rfl⟩) _ _ (by simp [AV.refs]) hv
  | .tup cs, v, x', hv, _, e, he, L', g => by
    simp only [snap] at e; injection e with e; subst e
    exact RV_mono (c := cxOf w Z L s) (c' := ⟨w, Zc, L', g⟩) (fun b hb => ⟨hz b hb, rfl⟩) _ _ (by rw [he]; simp) hv
  | .nilp, v, x', hv, _, e, he, L', g => by
    simp only [snap] at e; injection e with e; subst e; simpa only [RV] using hv
  | .ptr _ _, v, x', hv, _, e, he, L', g => by
    simp only [snap] at e; injection e with e; subst e; simp [AV.refs] at he
  | .prow _ _ _ _, v, x', hv, _, e, he, L', g => by
    simp only [snap] at e; injection e with e; subst e; simp [AV.refs] at he
  | .sp _ _, v, x', hv, _, e, he, L', g => by
    simp only [snap] at e; injection e with e; subst e
    exact RV_mono (c := cxOf w Z L s) (c' := ⟨w, Zc, L', g⟩) (fun b hb => ⟨hz b hb, rfl⟩) _ _ (by simp [AV.refs]) hv
  | .fn _ _, v, x', hv, _, e, he, L', g => by
    simp only [snap] at e; injection e with e; subst e
    exact RV_mono (c := cxOf w Z L s) (c' := ⟨w, Zc, L', g⟩) (fun b hb => ⟨hz b hb, rfl⟩) _ _ (by rw [he]; simp) hv
theorem snapL_sound {w : World} {Z Zc : Nat → Prop} {L : Loc} {s : Sto} (hobj : ∀ r ob, s.get r = some ob → RO (cxOf w Z L s) r ob) (hz : ∀ b, Z b → Zc b) : ∀ (xs : List AV) (vs : List Value) (xs' : List AV),
    RVs (cxOf w Z L s) xs vs → (∀ r ∈ AV.refsL xs, ∀ ob, s.get r = some ob → ∀ b, ob.has L r b → Zc b) → snapL (real call loop) s xs = some xs' → AV.refsL xs' = [] → ∀ L' g, RVs ⟨w, Zc, L', g⟩ xs' vs
  | [], vs, xs', hv, _, e, _, L', g => by
    simp only [snapL] at e; injection e with e; subst e; simpa only [RVs] using hv
  | x :: xs, vs, xs', hv, hr, e, he, L', g => by
    simp only [snapL] at e
    split at e
    case h_2 => cases e
    case h_1 y hc =>
      split at e
      case h_2 => cases e
      case h_1 ys hc2 =>
        injection e with e; subst e
        simp only [RVs] at hv ⊢
        obtain ⟨v, vs', h1, h2, h3⟩ := hv
        simp only [AV.refsL, List.append_eq_nil_iff] at he
        exact ⟨v, vs', h1, snap_sound hobj hz x v y h2 (fun r m => hr r (by simp [AV.refsL, m])) hc he.1 L' g, snapL_sound hobj hz xs vs' ys h3 (fun r m => hr r (by simp [AV.refsL, m])) hc2 he.2 L' g⟩
end

end
end Go.Vi
