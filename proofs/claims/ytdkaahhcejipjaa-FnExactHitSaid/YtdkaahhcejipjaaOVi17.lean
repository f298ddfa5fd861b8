/- Calls: all together. -/
import Derived.Test.YtdkaahhcejipjaaOVi16
set_option linter.unusedVariables false
set_option linter.unusedSimpArgs false
set_option linter.unnecessarySimpa false
set_option linter.unusedSectionVars false
namespace Go.Vi
open Go Go.RowKit
section
variable {P : Program} {call : FuncId → List AV → List (Option Obj) → Option CRes} {loop : Nat → St → Option (Out × St)}
variable {s : St} {a : Act} {w w' : World} {L L' : Loc} {Z Z' : Nat → Prop}

/-- The world has grown, and nothing else. -/
theorem RS.more (h : RS s a w L Z) (np : Nat) (hk : ∀ b, b < w.heap.size → w'.heap[b]? = w.heap[b]?) (hsz : w.heap.size ≤ w'.heap.size) (hos : w'.os = w.os) (htp : w'.tape = w.tape) (hop : w'.output = w.output) :
    RS s a w' L Z ∧ Tr np s.sto s.sto w w' L L Z Z := by
  have hz : ZLe w w' Z Z := fun b hb => ⟨hb, hk b (h.dis b hb).1⟩
  have hs : ∀ q, (s.sto.get q).isSome → Same (cxOf w Z L s.sto) (cxOf w' Z L s.sto) q := fun q hq => by
    obtain ⟨ob, ho⟩ := Option.isSome_iff_exists.1 hq
    exact ⟨rfl, fun k => k, fun sz xs k => ⟨xs, k, rfl⟩, fun b hb _ => blkSize_of_heap (hk b (h.block_lt ho hb))⟩
  refine ⟨⟨h.defers, RVs_mono (c := cxOf w Z L s.sto) (c' := cxOf w' Z L s.sto) hz _ _ (fun q hq => hs q (RVs_refs _ _ h.env q hq)) h.env, fun r ob hr => ?_, h.injH, fun b hb => ⟨Nat.lt_of_lt_of_le (h.dis b hb).1 hsz, (h.dis b hb).2⟩⟩,
    ⟨hos, htp, hop, hsz, fun b hb _ => hk b hb, fun _ h => .inl h, fun _ h => h, fun _ h => .inl h, fun _ _ => rfl, fun q _ hq => ⟨hq, hs q hq⟩⟩⟩
  exact RO_mono (c := cxOf w Z L s.sto) (c' := cxOf w' Z L s.sto) hz rfl rfl (fun b hb => hk b (h.has_lt hr hb)) (fun q hq => hs q (RO_refs (h.obj r ob hr) q hq)) (h.obj r ob hr)

mutual
theorem snap_refs {s : Sto} : ∀ (x x' : AV), x.refs = [] → snap (real call loop) s x = some x' → x'.refs = []
  | .emp, x', _, e => by simp only [snap] at e; injection e with e; subst e; rfl
  | .arr r sz g u, x', h, e => by simp [AV.refs] at h
  | .agg cs, x', h, e => by
    simp only [snap] at e
    split at e
    case h_2 => cases e
    case h_1 ds hc =>
      injection e with e; subst e
      simp only [AV.refs] at h ⊢
      exact snapL_refs cs ds h hc
  | .undef, x', h, e => by simp only [snap] at e; injection e with e; subst e; exact h
  | .bare, x', h, e => by simp only [snap] at e; injection e with e; subst e; exact h
  | .d _, x', h, e => by simp only [snap] at e; injection e with e; subst e; exact h
  | .tup _, x', h, e => by simp only [snap] at e; injection e with e; subst e; exact h
  | .nilp, x', h, e => by simp only [snap] at e; injection e with e; subst e; exact h
  | .ptr _ _, x', h, e => by simp only [snap] at e; injection e with e; subst e; exact h
  | .prow _ _ _ _, x', h, e => by simp only [snap] at e; injection e with e; subst e; exact h
  | .sp _ _, x', h, e => by simp only [snap] at e; injection e with e; subst e; exact h
  | .fn _ _, x', h, e => by simp only [snap] at e; injection e with e; subst e; exact h
theorem snapL_refs {s : Sto} : ∀ (xs xs' : List AV), AV.refsL xs = [] → snapL (real call loop) s xs = some xs' → AV.refsL xs' = []
  | [], xs', _, e => by simp only [snapL] at e; injection e with e; subst e; rfl
  | x :: xs, xs', h, e => by
    simp only [snapL] at e
    split at e
    case h_2 => cases e
    case h_1 y hc =>
      split at e
      case h_2 => cases e
      case h_1 ys hc2 =>
        injection e with e; subst e
        simp only [AV.refsL, List.append_eq_nil_iff] at h ⊢
        exact ⟨snap_refs x y h.1 hc, snapL_refs xs ys h.2 hc2⟩
end

mutual
theorem closedD_RD {w : World} {Z Z' : Nat → Prop} : ∀ (x : D) (cs : List Value), closedD x = true → RD w Z x cs → RD w Z' x cs
  | .int _ _, cs, _, h => by simpa only [RD] using h
  | .bool _, cs, _, h => by simpa only [RD] using h
  | .str _, cs, _, h => by simpa only [RD] using h
  | .own _ _, cs, _, h => by simpa only [RD] using h
  | .agg ds, cs, hc, h => by simp only [RD] at h ⊢; exact closedL_RDs ds cs (by simpa only [closedD] using hc) h
  | .lst xs, cs, hc, h => by
    simp only [closedD, List.isEmpty_iff] at hc
    subst hc
    simp only [RD] at h ⊢
    obtain ⟨a, c, h1, h2, _⟩ := h
    exact ⟨a, c, h1, h2, .inl trivial⟩
theorem closedL_RDs {w : World} {Z Z' : Nat → Prop} : ∀ (xs : List D) (cs : List Value), closedL xs = true → RDs w Z xs cs → RDs w Z' xs cs
  | [], cs, _, h => by simpa only [RDs] using h
  | x :: xs, cs, hc, h => by
    simp only [closedL, Bool.and_eq_true] at hc
    simp only [RDs] at h ⊢
    obtain ⟨v, cs', h1, h2, h3⟩ := h
    exact ⟨v, cs', h1, closedD_RD x _ hc.1 h2, closedL_RDs xs _ hc.2 h3⟩
end
theorem closed_Rows {w : World} {Z Z' : Nat → Prop} {b sz : Nat} : ∀ (xs : List D) (o : Nat), closedL xs = true → Rows w Z xs b o sz → Rows w Z' xs b o sz
  | [], o, _, _ => by simp only [Rows]
  | x :: xs, o, hc, h => by
    simp only [closedL, Bool.and_eq_true] at hc
    simp only [Rows] at h ⊢
    obtain ⟨⟨cs, h1, h2, h3⟩, h4⟩ := h
    exact ⟨⟨cs, h1, closedD_RD x _ hc.1 h2, h3⟩, closed_Rows xs _ hc.2 h4⟩
mutual
theorem closed_OC {w : World} {Z Z' : Nat → Prop} : ∀ (x : D) (v : Value) (F : List Nat), closedD x = true → OC w Z x v F → OC w Z' x v F
  | .own sz xs, v, F, hc, h => by
    simp only [OC] at h ⊢
    obtain ⟨a, c, h1, h2⟩ := h
    refine ⟨a, c, h1, h2.imp id ?_⟩
    rintro ⟨b, vs, F', e1, e2, e3, e4, e5, e6, e7⟩
    exact ⟨b, vs, F', e1, e2, e3, e4, e5, e6, closed_OEs sz.2 xs _ F' (by simpa only [closedD] using hc) e7⟩
  | .agg _, _, _, _, h => by simp [OC] at h
  | .int k n, v, F, hc, h => by simp only [OC] at h ⊢; exact ⟨closedD_RD _ _ hc h.1, h.2⟩
  | .bool b, v, F, hc, h => by simp only [OC] at h ⊢; exact ⟨closedD_RD _ _ hc h.1, h.2⟩
  | .str s, v, F, hc, h => by simp only [OC] at h ⊢; exact ⟨closedD_RD _ _ hc h.1, h.2⟩
  | .lst xs, v, F, hc, h => by simp only [OC] at h ⊢; exact ⟨closedD_RD _ _ hc h.1, h.2⟩
theorem closed_OCs {w : World} {Z Z' : Nat → Prop} : ∀ (xs : List D) (vs : List Value) (F : List Nat), closedL xs = true → OCs w Z xs vs F → OCs w Z' xs vs F
  | [], vs, F, _, h => by simpa only [OCs] using h
  | d :: ds, vs, F, hc, h => by
    simp only [closedL, Bool.and_eq_true] at hc
    simp only [OCs] at h ⊢
    obtain ⟨v, vs', F1, F2, h1, h2, h3, h4⟩ := h
    exact ⟨v, vs', F1, F2, h1, h2, closed_OC d v F1 hc.1 h3, closed_OCs ds vs' F2 hc.2 h4⟩
theorem closed_OE {w : World} {Z Z' : Nat → Prop} : ∀ (x : D) (vs : List Value) (F : List Nat), closedD x = true → OE w Z x vs F → OE w Z' x vs F
  | .agg ds, vs, F, hc, h => by simp only [OE] at h ⊢; exact closed_OCs ds vs F (by simpa only [closedD] using hc) h
  | .own sz xs, vs, F, hc, h => by simp only [OE] at h ⊢; obtain ⟨v, h1, h2⟩ := h; exact ⟨v, h1, closed_OC (.own sz xs) v F hc h2⟩
  | .int k n, v, F, hc, h => by simp only [OE] at h ⊢; exact ⟨closedD_RD _ _ hc h.1, h.2⟩
  | .bool b, v, F, hc, h => by simp only [OE] at h ⊢; exact ⟨closedD_RD _ _ hc h.1, h.2⟩
  | .str s, v, F, hc, h => by simp only [OE] at h ⊢; exact ⟨closedD_RD _ _ hc h.1, h.2⟩
  | .lst xs, v, F, hc, h => by simp only [OE] at h ⊢; exact ⟨closedD_RD _ _ hc h.1, h.2⟩
theorem closed_OEs {w : World} {Z Z' : Nat → Prop} (n : Nat) : ∀ (xs : List D) (vs : List Value) (F : List Nat), closedL xs = true → OEs w Z n xs vs F → OEs w Z' n xs vs F
  | [], vs, F, _, h => by simpa only [OEs] using h
  | x :: xs, vs, F, hc, h => by
    simp only [closedL, Bool.and_eq_true] at hc
    simp only [OEs] at h ⊢
    obtain ⟨F1, F2, h1, h2, h3, h4⟩ := h
    exact ⟨F1, F2, h1, h2, closed_OE x _ F1 hc.1 h3, closed_OEs n xs _ F2 hc.2 h4⟩
end
mutual
theorem closed_RV {w : World} {Z Z' : Nat → Prop} {L : Loc} {g : Id → Option Obj} : ∀ (x : AV) (v : Value), closedA x = true → RV ⟨w, Z, L, g⟩ x v → RV ⟨w, Z', L, g⟩ x v
  | .d (.int _ _), v, _, h => by simpa only [RV, RD] using h
  | .d (.bool _), v, _, h => by simpa only [RV, RD] using h
  | .d (.str _), v, _, h => by simpa only [RV, RD] using h
  | .d (.lst _), v, hc, _ => by simp [closedA] at hc
  | .d (.agg _), v, hc, _ => by simp [closedA] at hc
  | .d (.own _ _), v, hc, _ => by simp [closedA] at hc
  | .emp, v, _, h => by simpa only [RV] using h
  | .arr r sz gg u, v, _, h => by simpa only [RV] using h
  | .agg cs, v, hc, h => by
    simp only [RV] at h ⊢
    obtain ⟨vs, h1, h2⟩ := h
    exact ⟨vs, h1, closed_RVs cs vs (by simpa only [closedA] using hc) h2⟩
  | .tup cs, v, hc, h => by
    simp only [RV] at h ⊢
    obtain ⟨vs, h1, h2⟩ := h
    exact ⟨vs, h1, closed_RVs cs vs (by simpa only [closedA] using hc) h2⟩
  | .undef, v, hc, _ => by simp [closedA] at hc
  | .bare, v, hc, _ => by simp [closedA] at hc
  | .nilp, v, hc, _ => by simp [closedA] at hc
  | .ptr _ _, v, hc, _ => by simp [closedA] at hc
  | .prow _ _ _ _, v, hc, _ => by simp [closedA] at hc
  | .sp _ _, v, hc, _ => by simp [closedA] at hc
  | .fn _ _, v, hc, _ => by simp [closedA] at hc
theorem closed_RVs {w : World} {Z Z' : Nat → Prop} {L : Loc} {g : Id → Option Obj} : ∀ (xs : List AV) (vs : List Value), closedAL xs = true → RVs ⟨w, Z, L, g⟩ xs vs → RVs ⟨w, Z', L, g⟩ xs vs
  | [], vs, _, h => by simpa only [RVs] using h
  | x :: xs, vs, hc, h => by
    simp only [closedAL] at hc
    split at hc
    case h_2 => cases hc
    case h_1 h0 =>
      simp only [RVs] at h ⊢
      obtain ⟨v, vs', h1, h2, h3⟩ := h
      exact ⟨v, vs', h1, closed_RV x v h0 h2, closed_RVs xs vs' hc h3⟩
end
theorem closedO_at {X : List (Option Obj)} (h : closedO (real call loop) X = true) : ∀ j ob, at? X j = some ob → ∃ sz xs, closedL xs = true ∧ (ob = .rows sz xs ∨ ob = .orows sz xs) := by
  induction X with
  | nil => intro j ob hj; simp [at?] at hj
  | cons o X ih =>
    intro j ob hj
    unfold closedO at h
    split at h
    · rename_i hh; cases hh
    · rename_i sz xs l hh
      injection hh with h1 h2
      subst h1; subst h2
      split at h
      case h_2 => cases h
      case h_1 hc =>
        cases j with
        | zero => simp [at?] at hj; exact ⟨sz, xs, hc, .inl hj.symm⟩
        | succ j => exact ih h j ob (by simpa [at?] using hj)
    · rename_i sz xs l hh
      injection hh with h1 h2
      subst h1; subst h2
      split at h
      case h_2 => cases h
      case h_1 hc =>
        cases j with
        | zero => simp [at?] at hj; exact ⟨sz, xs, hc, .inr hj.symm⟩
        | succ j => exact ih h j ob (by simpa [at?] using hj)
    · cases h
theorem closed_RO {w : World} {Z Z' : Nat → Prop} {L : Loc} {g : Id → Option Obj} {r : Id} {ob : Obj} (h : ∃ sz xs, closedL xs = true ∧ (ob = .rows sz xs ∨ ob = .orows sz xs)) (h1 : RO ⟨w, Z, L, g⟩ r ob) : RO ⟨w, Z', L, g⟩ r ob := by
  obtain ⟨sz, xs, hc, rfl | rfl⟩ := h
  · simp only [RO] at h1 ⊢
    refine ⟨h1.1, fun b hb => ?_⟩
    obtain ⟨vs, k1, k2, k3⟩ := h1.2 b hb
    exact ⟨vs, k1, k2, closed_Rows xs _ hc k3⟩
  · simp only [RO] at h1 ⊢
    refine ⟨h1.1, fun b hb => ?_⟩
    obtain ⟨vs, F, k1, k2, k3, k4, k5⟩ := h1.2 b hb
    exact ⟨vs, F, k1, k2, closed_OEs _ xs _ F hc k3, k4, k5⟩

theorem handed_sound {m : CMode} {as as' : List AV} {s2 : St} {vs : List Value} (np : Nat) (h : RS s a w L Z) (hv : RVs (cxOf w Z L s.sto) as vs) (hm : m ≠ .bor) (hp : (m != .pure || (AV.refsL as).isEmpty) = true)
    (e : handed (real call loop) m as s = some (as', s2)) :
    ∃ Z2, RS s2 a w L Z2 ∧ Tr np s.sto s2.sto w w L L Z Z2 ∧ ((∀ r ∈ AV.refsL as', (s2.sto.get r).isSome) → RVs (cxOf w Z2 L s2.sto) as' vs) := by
  cases m with
  | bor => exact (hm rfl).elim
  | ref =>
    simp only [handed] at e
    injection e with e; injection e with e1 e2; subst e1; subst e2
    exact ⟨Z, h, Tr.refl _ _ _ _ _, fun _ => hv⟩
  | frz =>
    simp only [handed] at e
    obtain ⟨Z2, k1, k2, _, k4⟩ := fzL_sound np as vs s s2 as' Z h (Kept.refl _ _ _ _) hv e
    exact ⟨Z2, k1, k2, k4⟩
  | pure =>
    simp only [handed] at e
    have hr : AV.refsL as = [] := by simpa using hp
    split at e
    case h_2 => cases e
    case h_1 as'' hsn =>
      injection e with e; injection e with e1 e2; subst e1; subst e2
      refine ⟨Z, h, Tr.refl _ _ _ _ _, fun _ => ?_⟩
      exact snapL_sound h.obj (fun _ hb => hb) as vs _ hv (by rw [hr]; simp) hsn (snapL_refs as _ hr hsn) L s.sto.get

theorem buried_eq {ids : List Id} {pars : List (Option Obj)} {env : List AV} {sto : Sto} {f : Id → Id} (hlen : ids.length = pars.length) (h2 : ∀ (i : Nat) (q : Id), ids[i]? = some q → sto.get q = (at? pars i).map (·.map f)) :
    St.buried ids pars ⟨env, sto⟩ = ⟨AV.forgetL (fun r => ids.contains r && (sto.get r).isNone) env, sto.forget fun r => ids.contains r && (sto.get r).isNone⟩ := by
  unfold St.buried
  cases ha : allSome pars with
  | false => rfl
  | true =>
    have hd : ∀ r, (ids.contains r && (sto.get r).isNone) = false := by
      intro r
      by_cases hm : r ∈ ids
      · have hi := idx_get hm
        have hlt : idx ids r < pars.length := by rw [← hlen]; exact (List.getElem?_eq_some_iff.1 hi).1
        have := allSome_at ha _ hlt
        rw [h2 _ _ hi]
        cases hx : at? pars (idx ids r) with
        | none => simp [hx] at this
        | some _ => simp
      · simp [hm]
    rw [forgetL_false hd, Sto_forget_false hd]

theorem call_sound {np : Nat} {f : FuncId} {m : CMode} {raw : Bool} {as : List AV} {dst : Option Nat} {s' : St} {r : AV} (hco : CallOk P call) (h : RS s a w L Z) {vs : List Value} (hv : RVs (cxOf w Z L s.sto) as vs) (ht : ∀ t, dst = some t → t < np)
    (e : doCall (real call loop) f m raw as dst s = some (r, s')) (Q : Ending → World → Prop)
    (hQ : ∀ v w' L' Z', RS s' a w' L' Z' → Tr np s.sto s'.sto w w' L L' Z Z' → RV (cxOf w' Z' L' s'.sto) r v → Q (.returned v) w') : callable P f = true ∧ Calls P f vs.toArray w Q := by
  unfold doCall at e
  split at e
  · -- for the time of the call
    split at e
    · cases e
    rename_i as' hsn
    split at e
    · cases e
    rename_i hemp
    have hemp' : AV.refsL as' = [] := by simpa using hemp
    split at e
    · cases e
    rename_i c hc
    have no_lives : ∀ b, ¬ Lives [[], []] Loc.none b := by
      rintro b ⟨q, o, h1, _⟩
      rcases out_get h1 with ⟨_, h2⟩ | ⟨_, h2⟩ <;> simp [at?] at h2
    have hbor : callable P f = true ∧ ∀ Q : Ending → World → Prop, (∀ v w' L' Z', RS ⟨[c.ret], [c.extra, c.pars]⟩ ⟨#[v], []⟩ w' L' Z' → Tr 1 [[], []] [c.extra, c.pars] w w' Loc.none L' (fun b => Z b ∨ Lives s.sto L b) Z' → Q (.returned v) w') → Calls P f vs.toArray w Q := by
      have hvc := snapL_sound (Zc := fun b => Z b ∨ Lives s.sto L b) h.obj (fun _ hb => .inl hb) as vs as' hv (fun q hq o ho b hb => .inr ⟨q, o, ho, hb⟩) hsn hemp' Loc.none (Sto.get [[], []])
      refine ⟨(hco f as' [] c hc).1, (hco f as' [] c hc).2 vs.toArray w Loc.none (fun b => Z b ∨ Lives s.sto L b) ⟨rfl, by simpa using hvc, fun q ob hq => ?_, fun q q' b o o' hq => ?_, fun b hb => ⟨?_, no_lives b⟩⟩⟩
      · rcases out_get hq with ⟨_, h2⟩ | ⟨_, h2⟩ <;> simp [at?] at h2
      · rcases out_get hq with ⟨_, h2⟩ | ⟨_, h2⟩ <;> simp [at?] at h2
      · rcases hb with hb | ⟨q, o, h1, h2⟩
        · exact (h.dis b hb).1
        · exact h.has_lt h1 h2
    split at e
    case h_2 =>
      split at e
      case h_2 => cases e
      case h_1 tt hpars hca hco' =>
        split at e
        case h_2 => cases e
        case h_1 s3 hl =>
          injection e with e; injection e with e1 e2; subst e1; subst e2
          obtain ⟨c1, c2⟩ := hbor
          refine ⟨c1, c2 Q fun v w' L' Z' k t => ?_⟩
          rw [hpars] at k t
          have k' : RS ⟨[c.ret], [c.extra, []]⟩ ⟨#[v], []⟩ w' L' Z := by
            refine ⟨rfl, closed_RVs _ _ (by simp [closedAL, hca]) k.env, fun q ob hq => ?_, k.injH, fun b hb => ⟨Nat.lt_of_lt_of_le (h.dis b hb).1 t.size, fun hl => ?_⟩⟩
            · rcases out_get hq with ⟨_, h2⟩ | ⟨_, h2⟩
              · exact closed_RO (closedO_at hco' _ _ h2) (k.obj q ob hq)
              · simp [at?] at h2
            · rcases t.lives b hl with h1 | h1
              · exact no_lives b h1
              · have := (h.dis b hb).1; omega
          have t' : Tr 1 [[], inC s.sto []] [c.extra, []] w w' (inL [] L) L' Z Z := by
            refine ⟨t.os, t.tape, t.output, t.size, fun b hb _ => t.keep b hb (no_lives b), fun b hl => .inr ((t.lives b hl).resolve_left (no_lives b)), fun _ h => h, fun _ h => .inl h, fun r hr => ?_, fun r hr hs => ?_⟩
            · rw [t.par r hr]
              simp [inL, Loc.none]
            · obtain ⟨p1, _⟩ := t.psame r hr hs
              obtain ⟨o, ho⟩ := Option.isSome_iff_exists.1 p1
              rcases out_get ho with ⟨_, h2⟩ | ⟨_, h2⟩ <;> simp [at?] at h2
          obtain ⟨l1, l2⟩ := lay_sto hl
          have hg := lay_get l1
          have hf := lay_free l1
          have hret : c.ret.map (fun r => (tt, r.2)) = c.ret.map (fun r => if r.1 = 1 then ([] : List Id).getD r.2 (0, 0) else (tt, r.2)) := by
            refine map_congr_refs _ fun r hr => ?_
            have := RVs_refs _ _ k'.env r (by simpa [AV.refsL] using hr)
            obtain ⟨o, ho⟩ := Option.isSome_iff_exists.1 this
            rcases out_get ho with ⟨h1, h2⟩ | ⟨_, h2⟩
            · rw [if_neg (by omega)]
            · simp [at?] at h2
          have hX : ∀ j, (at? c.extra j).map (·.map fun r => (tt, r.2)) = (at? c.extra j).map (·.map fun r : Id => if r.1 = 1 then ([] : List Id).getD r.2 (0, 0) else (tt, r.2)) := by
            intro j
            cases hj : at? c.extra j with
            | none => rfl
            | some ob => obtain ⟨sz, xs, _, rfl | rfl⟩ := closedO_at hco' j ob hj <;> rfl
          have hgone : ∀ (s : Sto), s.forget (fun r => ([] : List Id).contains r && (s.get r).isNone) = s := fun s => Sto_forget_false (fun r => by simp) s
          by_cases hXe : c.extra = []
          · rw [hXe] at k' t' hg
            obtain ⟨L2, r1, r2, r3⟩ := call_back (np := np) (tt := tt) (sto := s.sto) (fin := s3.sto) (env := s3.env) h (by simp) (by simp) k' t' (fun hne => (hne rfl).elim) _ (fun r => rfl) rfl (fun _ _ => rfl) (by simp) (fun _ => false) (fun r => by simp) (by rw [l2, forgetL_false (fun _ => rfl)])
              (fun q => by
                rw [if_neg (by rintro ⟨h, _⟩; exact h rfl), hg]
                by_cases hq : q.1 = tt
                · rw [if_pos hq, hf q hq]; simp
                · rw [if_neg hq]
                  cases s.sto.get q with
                  | none => rfl
                  | some o => simp [Obj_forget_false]) (fun hne => (hne rfl).elim)
            rw [← hret] at r3
            exact hQ v w' L2 Z r1 r2 r3
          · obtain ⟨L2, r1, r2, r3⟩ := call_back (np := np) (tt := tt) (sto := s.sto) (fin := s3.sto) (env := s3.env) h (by simp) (by simp) k' t' (fun _ => ht tt rfl) _ (fun r => rfl) rfl (fun _ _ => rfl) (by simp) (fun _ => false) (fun r => by simp) (by rw [l2, forgetL_false (fun _ => rfl)])
              (fun q => by
                rw [hg]
                by_cases hq : q.1 = tt
                · rw [if_pos hq, if_pos ⟨hXe, hq⟩, ← hX, ← at?_map]; rfl
                · rw [if_neg hq, if_neg (fun hh => hq hh.2)]
                  cases s.sto.get q with
                  | none => rfl
                  | some o => simp [Obj_forget_false]) (fun _ q hq => hf q hq)
            rw [← hret] at r3
            exact hQ v w' L2 Z r1 r2 r3
    case h_1 hsc =>
      injection e with e; injection e with e1 e2; subst e1; subst e2
      obtain ⟨c1, c2⟩ := hbor
      refine ⟨c1, c2 Q ?_⟩
      · intro v w' L' Z' k t
        have hk : ∀ b, b < w.heap.size → w'.heap[b]? = w.heap[b]? := fun b hb => t.keep b hb (no_lives b)
        obtain ⟨k1, k2⟩ := h.more np hk t.size t.os t.tape t.output
        refine hQ v w' L Z k1 k2 ?_
        have h1 := k.env
        simp only [RVs] at h1
        obtain ⟨v', vs', e1, h2, e2⟩ := h1
        subst e2
        have : v' = v := by have : [v] = [v'] := e1; injection this with this; exact this.symm
        subst this
        generalize c.ret = x at h2 hsc
        cases x with
        | d y => cases y <;> first | (simp [scalar] at hsc; done) | (simp only [RV, RD] at h2 ⊢; exact h2)
        | bare => simpa only [RV] using h2
        | tup l => cases l with
          | nil => simp only [RV, RVs] at h2 ⊢; exact h2
          | cons _ _ => simp [scalar] at hsc
        | _ => simp [scalar] at hsc
  · rename_i hm
    split at e
    · cases e
    rename_i hp
    split at e
    · cases e
    rename_i as' s2 hh
    obtain ⟨Z2, g1, g2, g3⟩ := handed_sound np h hv (fun e => hm e) hp hh
    split at e
    · cases e
    rename_i ids hids
    obtain ⟨i1, i2, i3, _, i5⟩ := reach_sound 60 _ [] ids hids (by simp) (by simp) (by simp)
    split at e
    · cases e
    rename_i c hc
    simp only at e
    split at e
    · cases e
    rename_i sto hwb
    obtain ⟨b1, b2, b3⟩ := wrBack_get hwb i1 i2
    have b3' : ∀ (i : Nat) (q : Id), ids[i]? = some q → sto.get q = (at? c.pars i).map (·.map fun r => if r.1 = 1 then ids.getD r.2 (0, 0) else (dst.getD 0, r.2)) := by
      intro i q hi
      rw [b3 i q hi]
      unfold at?
      cases c.pars[i]? <;> rfl
    rw [buried_eq b1 b3'] at e
    have hin := call_in g1 i1 i5 (g3 fun r hr => i2 r (i3 r hr)) i3
    refine ⟨(hco f _ _ c hc).1, (hco f _ _ c hc).2 vs.toArray w (inL ids L) Z2 hin Q ?_⟩
    intro v w' L' Z' k t
    split at e
    · rename_i hX
      injection e with e; injection e with e1 e2; subst e1; subst e2
      rw [hX] at k t
      obtain ⟨L2, r1, r2, r3⟩ := call_back (np := np) (tt := dst.getD 0) (sto := sto) (fin := sto.forget fun r => ids.contains r && (sto.get r).isNone) g1 i1 i2 k t (fun hne => (hne rfl).elim) _ (fun r => rfl) b1 b2 b3' _ (fun r => rfl) rfl
        (fun q => by rw [get_forget, if_neg (by rintro ⟨h, _⟩; exact h rfl)]) (fun hne => (hne rfl).elim)
      exact hQ v w' L2 Z' r1 (g2.trans r2) r3
    · rename_i o ex hX
      split at e
      case h_2 => cases e
      case h_1 tt =>
        split at e
        case h_2 => cases e
        case h_1 s3 hl =>
          injection e with e; injection e with e1 e2; subst e1; subst e2
          rw [hX] at k t
          obtain ⟨l1, l2⟩ := lay_sto hl
          have hg := lay_get l1
          have hf := lay_free l1
          obtain ⟨L2, r1, r2, r3⟩ := call_back (np := np) (tt := tt) (sto := sto) (fin := s3.sto) (env := s3.env) g1 i1 i2 k t (fun _ => ht tt rfl) _ (fun r => rfl) b1 b2 b3' _ (fun r => rfl) l2
            (fun q => by
              rw [hg]
              by_cases hq : q.1 = tt
              · rw [if_pos hq, if_pos ⟨by simp, hq⟩, ← at?_map]; rfl
              · rw [if_neg hq, if_neg (fun hh => hq hh.2), get_forget]) (fun _ q hq => by
              have := hf q hq
              rw [get_forget] at this
              cases hx : sto.get q with
              | none => rfl
              | some _ => simp [hx] at this)
          exact hQ v w' L2 Z' r1 (g2.trans r2) r3

end
end Go.Vi
