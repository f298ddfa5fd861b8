/- Calls: all together. -/
import Derived.Test.YtdkaahhcejipjaaVi16
set_option linter.unusedVariables false
set_option linter.unusedSimpArgs false
namespace Go.Vi
open Go Go.RowKit
section
variable {P : Program} {call : FuncId → List AV → List (Option Obj) → Option CRes} {loop : Nat → St → Option (Out × St)}
variable {s : St} {a : Act} {w w' : World} {L L' : Id → Option Nat} {Z Z' : Nat → Prop}

/-- The world has grown, and nothing else. -/
theorem RS.more (h : RS s a w L Z) (np : Nat) (hk : ∀ b, b < w.heap.size → w'.heap[b]? = w.heap[b]?) (hsz : w.heap.size ≤ w'.heap.size) (hos : w'.os = w.os) (htp : w'.tape = w.tape) (hop : w'.output = w.output) :
    RS s a w' L Z ∧ Tr np s.sto s.sto w w' L L Z Z := by
  have hz : ZLe w w' Z Z := fun b hb => ⟨hb, hk b (h.dis b hb).1⟩
  have hs : ∀ q, (s.sto.get q).isSome → Same (cxOf w Z L s.sto) (cxOf w' Z L s.sto) q := fun q hq => by
    obtain ⟨ob, ho⟩ := Option.isSome_iff_exists.1 hq
    exact ⟨rfl, fun k => k, fun sz xs k => ⟨xs, k, rfl⟩, fun b hb _ => blkSize_of_heap (hk b (h.block_lt ho hb))⟩
  refine ⟨⟨h.defers, RVs_mono (c := cxOf w Z L s.sto) (c' := cxOf w' Z L s.sto) hz _ _ (fun q hq => hs q (RVs_refs _ _ h.env q hq)) h.env, fun r ob hr => ?_, h.inj, fun b hb => ⟨Nat.lt_of_lt_of_le (h.dis b hb).1 hsz, (h.dis b hb).2⟩⟩,
    ⟨hos, htp, hop, hsz, fun b hb _ => hk b hb, fun _ h => .inl h, fun _ h => h, fun _ h => .inl h, fun _ _ => rfl, fun q _ hq => ⟨hq, hs q hq⟩⟩⟩
  exact RO_mono (c := cxOf w Z L s.sto) (c' := cxOf w' Z L s.sto) hz rfl (fun b hb => hk b (h.block_lt hr hb)) (fun q hq => hs q (RO_refs (h.obj r ob hr) q hq)) (h.obj r ob hr)

mutual
theorem snap_refs {s : Sto} : ∀ (x x' : AV), x.refs = [] → snap (real call loop) s x = some x' → x'.refs = []
  | .emp, x', _, e => by simp only [snap] at e; injection e with e; subst e; rfl
  | .arr r sz g u, x', h, e => by simp [AV.refs] at h
  | .agg cs, x', h, e => by
    simp only [snap] at e
    split at e
    case h_2 => cases e
    case h_1 ds hc =>
      injection e with e; subst e
      simp only [AV.refs] at h ⊢
      exact snapL_refs cs ds h hc
  | .undef, x', h, e => by simp only [snap] at e; injection e with e; subst e; exact h
  | .bare, x', h, e => by simp only [snap] at e; injection e with e; subst e; exact h
  | .d _, x', h, e => by simp only [snap] at e; injection e with e; subst e; exact h
  | .tup _, x', h, e => by simp only [snap] at e; injection e with e; subst e; exact h
  | .nilp, x', h, e => by simp only [snap] at e; injection e with e; subst e; exact h
  | .ptr _ _, x', h, e => by simp only [snap] at e; injection e with e; subst e; exact h
  | .prow _ _ _ _, x', h, e => by simp only [snap] at e; injection e with e; subst e; exact h
  | .sp _ _, x', h, e => by simp only [snap] at e; injection e with e; subst e; exact h
  | .fn _ _, x', h, e => by simp only [snap] at e; injection e with e; subst e; exact h
theorem snapL_refs {s : Sto} : ∀ (xs xs' : List AV), AV.refsL xs = [] → snapL (real call loop) s xs = some xs' → AV.refsL xs' = []
  | [], xs', _, e => by simp only [snapL] at e; injection e with e; subst e; rfl
  | x :: xs, xs', h, e => by
    simp only [snapL] at e
    split at e
    case h_2 => cases e
    case h_1 y hc =>
      split at e
      case h_2 => cases e
      case h_1 ys hc2 =>
        injection e with e; subst e
        simp only [AV.refsL, List.append_eq_nil_iff] at h ⊢
        exact ⟨snap_refs x y h.1 hc, snapL_refs xs ys h.2 hc2⟩
end

theorem handed_sound {m : CMode} {as as' : List AV} {s2 : St} {vs : List Value} (np : Nat) (h : RS s a w L Z) (hv : RVs (cxOf w Z L s.sto) as vs) (hm : m ≠ .bor) (hp : (m != .pure || (AV.refsL as).isEmpty) = true)
    (e : handed (real call loop) m as s = some (as', s2)) :
    ∃ Z2, RS s2 a w L Z2 ∧ Tr np s.sto s2.sto w w L L Z Z2 ∧ ((∀ r ∈ AV.refsL as', (s2.sto.get r).isSome) → RVs (cxOf w Z2 L s2.sto) as' vs) := by
  cases m with
  | bor => exact (hm rfl).elim
  | ref =>
    simp only [handed] at e
    injection e with e; injection e with e1 e2; subst e1; subst e2
    exact ⟨Z, h, Tr.refl _ _ _ _ _, fun _ => hv⟩
  | frz =>
    simp only [handed] at e
    obtain ⟨Z2, k1, k2, _, k4⟩ := fzL_sound np as vs s s2 as' Z h (Kept.refl _ _ _ _) hv e
    exact ⟨Z2, k1, k2, k4⟩
  | pure =>
    simp only [handed] at e
    have hr : AV.refsL as = [] := by simpa using hp
    split at e
    case h_2 => cases e
    case h_1 as'' hsn =>
      injection e with e; injection e with e1 e2; subst e1; subst e2
      refine ⟨Z, h, Tr.refl _ _ _ _ _, fun _ => ?_⟩
      exact snapL_sound h.obj (fun _ hb => hb) as vs _ hv (by rw [hr]; simp) hsn (snapL_refs as _ hr hsn) L s.sto.get

theorem buried_eq {ids : List Id} {pars : List (Option Obj)} {env : List AV} {sto : Sto} {f : Id → Id} (hlen : ids.length = pars.length) (h2 : ∀ (i : Nat) (q : Id), ids[i]? = some q → sto.get q = (at? pars i).map (·.map f)) :
    St.buried ids pars ⟨env, sto⟩ = ⟨AV.forgetL (fun r => ids.contains r && (sto.get r).isNone) env, sto.forget fun r => ids.contains r && (sto.get r).isNone⟩ := by
  unfold St.buried
  cases ha : allSome pars with
  | false => rfl
  | true =>
    have hd : ∀ r, (ids.contains r && (sto.get r).isNone) = false := by
      intro r
      by_cases hm : r ∈ ids
      · have hi := idx_get hm
        have hlt : idx ids r < pars.length := by rw [← hlen]; exact (List.getElem?_eq_some_iff.1 hi).1
        have := allSome_at ha _ hlt
        rw [h2 _ _ hi]
        cases hx : at? pars (idx ids r) with
        | none => simp [hx] at this
        | some _ => simp
      · simp [hm]
    rw [forgetL_false hd, Sto_forget_false hd]

theorem call_sound {np : Nat} {f : FuncId} {m : CMode} {raw : Bool} {as : List AV} {dst : Option Nat} {s' : St} {r : AV} (hco : CallOk P call) (h : RS s a w L Z) {vs : List Value} (hv : RVs (cxOf w Z L s.sto) as vs) (ht : ∀ t, dst = some t → t < np)
    (e : doCall (real call loop) f m raw as dst s = some (r, s')) (Q : Ending → World → Prop)
    (hQ : ∀ v w' L' Z', RS s' a w' L' Z' → Tr np s.sto s'.sto w w' L L' Z Z' → RV (cxOf w' Z' L' s'.sto) r v → Q (.returned v) w') : callable P f = true ∧ Calls P f vs.toArray w Q := by
  unfold doCall at e
  split at e
  · -- for the time of the call
    split at e
    · cases e
    rename_i as' hsn
    split at e
    · cases e
    rename_i hemp
    have hemp' : AV.refsL as' = [] := by simpa using hemp
    split at e
    · cases e
    rename_i c hc
    split at e
    case h_2 => cases e
    case h_1 hsc =>
      injection e with e; injection e with e1 e2; subst e1; subst e2
      have hvc := snapL_sound (Zc := fun b => Z b ∨ Lives s.sto L b) h.obj (fun _ hb => .inl hb) as vs as' hv (fun q hq b hb => by
        obtain ⟨o, ho⟩ := Option.isSome_iff_exists.1 (RVs_refs as vs hv q hq)
        exact .inr ⟨q, o, ho, hb⟩) hsn hemp' (fun _ => none) (Sto.get [[], []])
      refine ⟨(hco f as' [] c hc).1, (hco f as' [] c hc).2 vs.toArray w (fun _ => none) (fun b => Z b ∨ Lives s.sto L b) ⟨rfl, by simpa using hvc, fun q ob hq => ?_, fun q q' b _ _ hq => (by cases hq), fun b hb => ⟨?_, ?_⟩⟩ Q ?_⟩
      · rcases out_get hq with ⟨_, h2⟩ | ⟨_, h2⟩ <;> simp [at?] at h2
      · rcases hb with hb | ⟨q, o, h1, h2⟩
        · exact (h.dis b hb).1
        · exact h.block_lt h1 h2
      · rintro ⟨q, o, h1, h2⟩; cases h2
      · intro v w' L' Z' k t
        have hk : ∀ b, b < w.heap.size → w'.heap[b]? = w.heap[b]? := fun b hb => t.keep b hb (by rintro ⟨q, o, h1, h2⟩; cases h2)
        obtain ⟨k1, k2⟩ := h.more np hk t.size t.os t.tape t.output
        refine hQ v w' L Z k1 k2 ?_
        have h1 := k.env
        simp only [RVs] at h1
        obtain ⟨v', vs', e1, h2, e2⟩ := h1
        subst e2
        have : v' = v := by have : [v] = [v'] := e1; injection this with this; exact this.symm
        subst this
        generalize c.ret = x at h2 hsc
        cases x with
        | d y => cases y <;> first | (simp [scalar] at hsc; done) | (simp only [RV, RD] at h2 ⊢; exact h2)
        | bare => simpa only [RV] using h2
        | tup l => cases l with
          | nil => simp only [RV, RVs] at h2 ⊢; exact h2
          | cons _ _ => simp [scalar] at hsc
        | _ => simp [scalar] at hsc
  · rename_i hm
    split at e
    · cases e
    rename_i hp
    split at e
    · cases e
    rename_i as' s2 hh
    obtain ⟨Z2, g1, g2, g3⟩ := handed_sound np h hv (fun e => hm e) hp hh
    split at e
    · cases e
    rename_i ids hids
    obtain ⟨i1, i2, i3, _, i5⟩ := reach_sound 60 _ [] ids hids (by simp) (by simp) (by simp)
    split at e
    · cases e
    rename_i c hc
    simp only at e
    split at e
    · cases e
    rename_i sto hwb
    obtain ⟨b1, b2, b3⟩ := wrBack_get hwb i1 i2
    have b3' : ∀ (i : Nat) (q : Id), ids[i]? = some q → sto.get q = (at? c.pars i).map (·.map fun r => if r.1 = 1 then ids.getD r.2 (0, 0) else (dst.getD 0, r.2)) := by
      intro i q hi
      rw [b3 i q hi]
      unfold at?
      cases c.pars[i]? <;> rfl
    rw [buried_eq b1 b3'] at e
    have hin := call_in g1 i1 i5 (g3 fun r hr => i2 r (i3 r hr)) i3
    refine ⟨(hco f _ _ c hc).1, (hco f _ _ c hc).2 vs.toArray w (inL ids L) Z2 hin Q ?_⟩
    intro v w' L' Z' k t
    split at e
    · rename_i hX
      injection e with e; injection e with e1 e2; subst e1; subst e2
      rw [hX] at k t
      obtain ⟨L2, r1, r2, r3⟩ := call_back (np := np) (tt := dst.getD 0) (sto := sto) (fin := sto.forget fun r => ids.contains r && (sto.get r).isNone) g1 i1 i2 k t (fun hne => (hne rfl).elim) _ (fun r => rfl) b1 b2 b3' _ (fun r => rfl) rfl
        (fun q => by rw [get_forget, if_neg (by rintro ⟨h, _⟩; exact h rfl)]) (fun hne => (hne rfl).elim)
      exact hQ v w' L2 Z' r1 (g2.trans r2) r3
    · rename_i o ex hX
      split at e
      case h_2 => cases e
      case h_1 tt =>
        split at e
        case h_2 => cases e
        case h_1 s3 hl =>
          injection e with e; injection e with e1 e2; subst e1; subst e2
          rw [hX] at k t
          obtain ⟨l1, l2⟩ := lay_sto hl
          have hg := lay_get l1
          have hf := lay_free l1
          obtain ⟨L2, r1, r2, r3⟩ := call_back (np := np) (tt := tt) (sto := sto) (fin := s3.sto) (env := s3.env) g1 i1 i2 k t (fun _ => ht tt rfl) _ (fun r => rfl) b1 b2 b3' _ (fun r => rfl) l2
            (fun q => by
              rw [hg]
              by_cases hq : q.1 = tt
              · rw [if_pos hq, if_pos ⟨by simp, hq⟩, ← at?_map]; rfl
              · rw [if_neg hq, if_neg (fun hh => hq hh.2), get_forget]) (fun _ q hq => by
              have := hf q hq
              rw [get_forget] at this
              cases hx : sto.get q with
              | none => rfl
              | some _ => simp [hx] at this)
          exact hQ v w' L2 Z' r1 (g2.trans r2) r3

end
end Go.Vi
