/- Functions: what they give back; all together. -/
import Derived.Test.YtdkaahhcejipjaaOVi24
set_option linter.unusedVariables false
set_option linter.unusedSimpArgs false
set_option linter.unnecessarySimpa false
set_option linter.unusedSectionVars false
namespace Go.Vi
open Go Go.RowKit
section
variable {P : Program} {T : Nat → Option VL} {call : FuncId → List AV → List (Option Obj) → Option CRes} {loop : Nat → St → Option (Out × St)}

def outF (n : Nat) (ids : List Id) (r : Id) : Id := if r.1 < n then (0, idx ids r) else (1, r.1 - n)
def outL (n : Nat) (ids : List Id) (L Lin : Loc) : Loc :=
  ⟨fun r => if r.1 = 0 then (match ids[r.2]? with | some q => L q | none => none) else if r.1 = 1 then L (n + r.2, 0) else Lin r,
   fun r => if r.1 = 0 then (match ids[r.2]? with | some q => L.nest q | none => fun _ => False) else if r.1 = 1 then L.nest (n + r.2, 0) else Lin.nest r⟩
def outX (s : Sto) (n : Nat) (ids : List Id) : List (Option Obj) := ids.map fun r => (s.get r).map (·.map (outF n ids))
def outP (s : Sto) (n m : Nat) (ids : List Id) : List (Option Obj) := (List.range m).map fun i => (s.get (n + i, 0)).map (·.map (outF n ids))

theorem outX_at {s : Sto} {n : Nat} {ids : List Id} {j : Nat} : at? (outX s n ids) j = match ids[j]? with | some q => (s.get q).map (·.map (outF n ids)) | none => none := by
  unfold outX at?
  rw [List.getElem?_map]
  cases ids[j]? <;> rfl
theorem outP_at {s : Sto} {n m : Nat} {ids : List Id} {j : Nat} : at? (outP s n m ids) j = if j < m then (s.get (n + j, 0)).map (·.map (outF n ids)) else none := by
  unfold outP at?
  rw [List.getElem?_map]
  by_cases h : j < m
  · simp [h]
  · simp [h]

theorem func_out {n m : Nat} {ids : List Id} {cs : List (Option Obj)} {v : AV} {u : Value} {s : St} {a : Act} {w w' : World} {L Lin : Loc} {Z Z' : Nat → Prop} (h : RS s a w' L Z') (t : Tr n (sto0 n cs) s.sto w w' (L0 n Lin) L Z Z') (hm : m = cs.length)
    (hn : ids.Nodup) (hlt : ∀ r ∈ ids, r.1 < n) (hs : ∀ r ∈ ids, (s.sto.get r).isSome) (hc : ∀ r ∈ ids, ∀ ob, s.sto.get r = some ob → ∀ q ∈ ob.refs, q ∈ ids)
    (hv : RV (cxOf w' Z' L s.sto) v u) (hvr : ∀ r ∈ v.refs, r.1 < n → r ∈ ids) (hpr : ∀ i, i < m → ∀ ob, s.sto.get (n + i, 0) = some ob → ∀ r ∈ ob.refs, r.1 < n → r ∈ ids) :
    RS ⟨[v.map (outF n ids)], [outX s.sto n ids, outP s.sto n m ids]⟩ ⟨#[u], []⟩ w' (outL n ids L Lin) Z' ∧ Tr 1 [[], cs] [outX s.sto n ids, outP s.sto n m ids] w w' Lin (outL n ids L Lin) Z Z' := by
  have hpar : ∀ r, (s.sto.get r).isSome → n ≤ r.1 → ∃ i, i < m ∧ r = (n + i, 0) := by
    intro r hr hnr
    obtain ⟨h1, _⟩ := t.psame r hnr hr
    obtain ⟨o, ho⟩ := Option.isSome_iff_exists.1 h1
    obtain ⟨i, o', rfl, h3, _⟩ := sto0_get ho
    exact ⟨i, by rw [hm]; exact (List.getElem?_eq_some_iff.1 (at?_some h3)).1, rfl⟩
  have hren : ∀ r, (s.sto.get r).isSome → (r.1 < n → r ∈ ids) → Ren ⟨w', Z', L, s.sto.get⟩ ⟨w', Z', outL n ids L Lin, Sto.get [outX s.sto n ids, outP s.sto n m ids]⟩ (outF n ids) r := by
    intro r hr hin
    by_cases hlr : r.1 < n
    · have hi := idx_get (hin hlr)
      have he : outF n ids r = (0, idx ids r) := by simp [outF, hlr]
      refine ⟨?_, fun _ => ?_, fun sz xs k => ?_⟩
      · show outL n ids L Lin (outF n ids r) = L r
        rw [he]; simp [outL, hi]
      · show (Sto.get [outX s.sto n ids, outP s.sto n m ids] (outF n ids r)).isSome
        rw [he, get2_0, outX_at, hi]; simpa using hr
      · show (Sto.get [outX s.sto n ids, outP s.sto n m ids] (outF n ids r)).bind Obj.rw = _
        have k' : (s.sto.get r).bind Obj.rw = some (sz, xs) := k
        rw [he, get2_0, outX_at, hi]
        cases ho : s.sto.get r with
        | none => simp [ho] at k'
        | some o => simp [ho] at k'; simp [ho, Obj.rw_map, k']
    · obtain ⟨i, hi, rfl⟩ := hpar r hr (by omega)
      have he : outF n ids (n + i, 0) = (1, i) := by simp [outF]
      refine ⟨?_, fun _ => ?_, fun sz xs k => ?_⟩
      · show outL n ids L Lin (outF n ids (n + i, 0)) = L (n + i, 0)
        rw [he]; simp [outL]
      · show (Sto.get [outX s.sto n ids, outP s.sto n m ids] (outF n ids (n + i, 0))).isSome
        rw [he, get2_1, outP_at, if_pos hi]; simpa using hr
      · show (Sto.get [outX s.sto n ids, outP s.sto n m ids] (outF n ids (n + i, 0))).bind Obj.rw = _
        have k' : (s.sto.get (n + i, 0)).bind Obj.rw = some (sz, xs) := k
        rw [he, get2_1, outP_at, if_pos hi]
        cases ho : s.sto.get (n + i, 0) with
        | none => simp [ho] at k'
        | some o => simp [ho] at k'; simp [Obj.rw_map, k']
  have hget : ∀ r ob, Sto.get [outX s.sto n ids, outP s.sto n m ids] r = some ob → ∃ q o, s.sto.get q = some o ∧ (outL n ids L Lin r = L q ∧ (outL n ids L Lin).nest r = L.nest q) ∧ ob = o.map (outF n ids) ∧ ((∃ j, r = (0, j) ∧ ids[j]? = some q ∧ q ∈ ids) ∨ ∃ i, i < m ∧ q = (n + i, 0) ∧ r = (1, i)) := by
    intro r ob hr
    obtain ⟨r1, r2⟩ := r
    match r1 with
    | 0 =>
      rw [get2_0, outX_at] at hr
      split at hr
      · rename_i q hq
        cases ho : s.sto.get q with
        | none => simp [ho] at hr
        | some o => simp [ho] at hr; exact ⟨q, o, ho, ⟨by simp [outL, hq], by simp [outL, hq]⟩, hr.symm, .inl ⟨r2, rfl, hq, List.mem_of_getElem? hq⟩⟩
      · cases hr
    | 1 =>
      rw [get2_1, outP_at] at hr
      split at hr
      · rename_i hi
        cases ho : s.sto.get (n + r2, 0) with
        | none => simp [ho] at hr
        | some o => simp [ho] at hr; exact ⟨(n + r2, 0), o, ho, ⟨by simp [outL], by simp [outL]⟩, hr.symm, .inr ⟨r2, hi, rfl, rfl⟩⟩
      · cases hr
    | i + 2 => rw [get2_2] at hr; cases hr
  have hlives : ∀ b, Lives [outX s.sto n ids, outP s.sto n m ids] (outL n ids L Lin) b → Lives s.sto L b := fun b hl => by
    obtain ⟨r, ob, h1, h2⟩ := hl
    obtain ⟨q, o, g1, g2, rfl, _⟩ := hget r ob h1
    exact ⟨q, o, g1, (has_iff g2.1 g2.2).1 (has_map.1 h2)⟩
  have hin : ∀ b, Lives [[], cs] Lin b → Lives (sto0 n cs) (L0 n Lin) b := fun b hl => by
    obtain ⟨r, ob, h1, h2⟩ := hl
    rcases out_get h1 with ⟨_, k⟩ | ⟨k1, k⟩
    · simp [at?] at k
    · refine ⟨(n + r.2, 0), ob.map (inn n), by rw [sto0_get', k]; rfl, ?_⟩
      have hr : r = (1, r.2) := Prod.ext k1 rfl
      rw [hr] at h2
      exact L0_has.2 h2
  have hin' : ∀ b, Lives (sto0 n cs) (L0 n Lin) b → Lives [[], cs] Lin b := fun b hl => by
    obtain ⟨q, o, h1, h2⟩ := hl
    obtain ⟨i, o', rfl, h3, rfl⟩ := sto0_get h1
    exact ⟨(1, i), o', h3, L0_has.1 h2⟩
  refine ⟨⟨rfl, ?_, ?_, ?_, fun b hb => ⟨(h.dis b hb).1, fun hl => (h.dis b hb).2 (hlives b hl)⟩⟩,
    ⟨t.os, t.tape, t.output, t.size, fun b hb hnl => t.keep b hb fun hl => hnl (hin' b hl), fun b hl => (t.lives b (hlives b hl)).imp (hin' b) id, t.zin, fun b hb => (t.zout b hb).imp id fun x => x.imp id (hin' b), ?_, ?_⟩⟩
  · simp only [RVs]
    refine ⟨u, [], rfl, ?_, rfl⟩
    exact RV_map (ob := s.sto.get) v _ (fun r hr => hren r (RV_refs _ _ hv r hr) (hvr r hr)) hv
  · intro r ob hr
    obtain ⟨q, o, g1, g2, g3, g4⟩ := hget r ob hr
    subst g3
    refine RO_map (g := s.sto.get) (h.obj q o g1) g2.1 (fun _ => g2.2) (fun p hp => hren p (RO_refs (h.obj q o g1) p hp) ?_)
    rcases g4 with ⟨j, _, _, g5⟩ | ⟨i, gi, rfl, _⟩
    · exact fun _ => hc q g5 o g1 p hp
    · exact hpr i gi o g1 p hp
  · intro r r' b ob ob' ho ho' hb hb'
    obtain ⟨q, o, g1, g2, rfl, g4⟩ := hget r ob ho
    obtain ⟨q', o', g1', g2', rfl, g4'⟩ := hget r' ob' ho'
    have hq := h.injH q q' b o o' g1 g1' ((has_iff g2.1 g2.2).1 (has_map.1 hb)) ((has_iff g2'.1 g2'.2).1 (has_map.1 hb'))
    subst hq
    rcases g4 with ⟨j, rfl, hj, hm1⟩ | ⟨i, hi, rfl, rfl⟩
    · rcases g4' with ⟨j', rfl, hj', hm2⟩ | ⟨i', hi', e, rfl⟩
      · have := (idx_of hn hj).symm.trans (idx_of hn hj')
        rw [this]
      · have := hlt q hm1; rw [e] at this; simp at this; omega
    · rcases g4' with ⟨j', rfl, hj', hm2⟩ | ⟨i', hi', e, rfl⟩
      · have := hlt _ hm2; simp at this; omega
      · have : i = i' := by simpa using e
        rw [this]
  · intro r hr
    obtain ⟨r1, r2⟩ := r
    match r1 with
    | 0 => simp at hr
    | 1 =>
      have := t.par (n + r2, 0) (by simp)
      simp [outL, this, L0]
    | i + 2 => simp [outL]
  · intro r hr hrs
    obtain ⟨ob, ho⟩ := Option.isSome_iff_exists.1 hrs
    obtain ⟨q, o, g1, g2, g3, g4⟩ := hget r ob ho
    rcases g4 with ⟨j, rfl, _, _⟩ | ⟨i, hi, rfl, rfl⟩
    · simp at hr
    · obtain ⟨p1, p2, p3, p4, p5⟩ := t.psame (n + i, 0) (by simp) (by simp [g1])
      have hs1 : (sto0 n cs).get (n + i, 0) = (at? cs i).map (·.map (inn n)) := sto0_get'
      have hL : L (n + i, 0) = Lin (1, i) := by rw [t.par (n + i, 0) (by simp)]; simp [L0]
      refine ⟨?_, ?_, fun _ => ?_, fun sz xs k => ?_, fun b hb _ => ?_⟩
      · rw [get2_1]; rw [hs1] at p1; simpa using p1
      · show outL n ids L Lin (1, i) = Lin (1, i)
        simp [outL, hL]
      · exact hrs
      · have k' : (at? cs i).bind Obj.rw = some (sz, xs) := k
        obtain ⟨ys, y1, y2⟩ := p4 sz xs (by
          show ((sto0 n cs).get (n + i, 0)).bind Obj.rw = _
          rw [hs1]
          cases ho : at? cs i with
          | none => simp [ho] at k'
          | some o => simp [ho] at k'; simp [Obj.rw_map, k'])
        refine ⟨ys, ?_, y2⟩
        have y1' : (s.sto.get (n + i, 0)).bind Obj.rw = some (sz, ys) := y1
        show (Sto.get [outX s.sto n ids, outP s.sto n m ids] (1, i)).bind Obj.rw = _
        rw [get2_1, outP_at, if_pos hi]
        cases ho : s.sto.get (n + i, 0) with
        | none => simp [ho] at y1'
        | some o => simp [ho] at y1'; simp [Obj.rw_map, y1']
      · exact p5 b (by show L0 n Lin (n + i, 0) = _; simpa [L0] using hb) p1

theorem callF_ok (hmix : P.follows .mixedOrders = true) (hco : CallOk P call) (hlo : LoopOk P T loop) {F : FuncId → Option (VF × Bool)} (hF : ∀ f vf raw, F f = some (vf, raw) → okF P T f vf = true) : CallOk P (callF (real call loop) F) := by
  intro f as cs c e
  unfold callF at e
  split at e
  · cases e
  rename_i vf raw hf
  have hok := hF f vf raw hf
  unfold okF at hok
  split at hok
  case h_2 => cases hok
  case h_1 fn hfn =>
    split at hok
    case h_2 => cases hok
    case h_1 body hbody =>
      simp only [Bool.and_eq_true, beq_iff_eq, decide_eq_true_eq, Bool.not_eq_true'] at hok
      obtain ⟨⟨⟨⟨o1, o2⟩, o3⟩, o4⟩, o5⟩ := hok
      have hcl : callable P f = true := by
        unfold callable
        rw [hfn]
        simp only [hbody, Option.isSome_some, o1, Bool.not_false, Bool.and_self]
      refine ⟨hcl, fun vs w Lin Z h Q hQ => ?_⟩
      simp only at e
      split at e
      · cases e
      rename_i hlen
      have hlen' : as.length = vf.nargs := by simpa using hlen
      have hin := func_in (n := vf.ntmps) h hlen'
      refine calls_of_wp hfn hbody ?_
      rw [← o2]
      have hbodyE : ∀ (r : Option (Out × St)), r = exec (real call loop) vf.body ⟨AV.mapL (inn vf.ntmps) as ++ List.replicate (vf.ntmps - vf.nargs) .bare, sto0 vf.ntmps cs⟩ → r = exec (real call loop) vf.body ⟨AV.mapL (inn vf.ntmps) as ++ List.replicate (vf.ntmps - vf.nargs) .bare, sto0 vf.ntmps cs⟩ := fun _ h => h
      split at e
      · cases e
      · cases e
      rename_i out s1 hne hex
      split at e
      · cases e
      rename_i rs hrs
      refine exec_sound hmix hco hlo body vf.body _ out s1 _ w (L0 vf.ntmps Lin) Z o5 hin hex _ fun a1 w1 L1 Z1 k1 k2 => ?_
      have main : a1.defers = [] ∧ ∃ v, (results fn a1.tmps).run P w1 = .ok v w1 ∧ Q (.returned v) w1 := by
        obtain ⟨us, r1, r2⟩ := getRes_sound (P := P) k1 o4 hrs
        refine ⟨k1.defers, _, results_run r1, ?_⟩
        have hval : RV (cxOf w1 Z1 L1 s1.sto) (tupA rs) (tupV us) := by
          match rs, us, r2 with
          | [], us, r2 => simp only [RVs] at r2; subst r2; simp only [tupA, tupV, RV, RVs]; exact ⟨[], rfl, rfl⟩
          | [x], us, r2 => simp only [RVs] at r2; obtain ⟨v, vs', rfl, h2, rfl⟩ := r2; exact h2
          | x :: y :: l, us, r2 =>
            have r2' := r2
            simp only [RVs] at r2
            obtain ⟨v, vs', rfl, h2, v', vs'', rfl, h3, h4⟩ := r2
            simp only [tupA, tupV, RV]
            exact ⟨_, rfl, r2'⟩
        generalize tupA rs = x at e hval
        generalize tupV us = u at hval ⊢
        have hfz : ∃ x2 s2 Z2, handBack (real call loop) raw x s1 = some (x2, s2) ∧ RS s2 a1 w1 L1 Z2 ∧ Tr vf.ntmps s1.sto s2.sto w1 w1 L1 L1 Z1 Z2 ∧ RVw (cxOf w1 Z2 L1 s2.sto) x2 u := by
          split at e
          · cases e
          rename_i x2 s2 hfz
          cases raw with
          | true =>
            simp only [handBack] at hfz
            injection hfz with hfz; injection hfz with q1 q2; subst q1; subst q2
            exact ⟨x, s1, Z1, rfl, k1, Tr.refl _ _ _ _ _, fun _ => hval⟩
          | false =>
            obtain ⟨Z2, g1, g2, _, g4⟩ := fz_sound vf.ntmps x u s1 s2 x2 Z1 k1 (Kept.refl _ _ _ _) hval hfz
            exact ⟨x2, s2, Z2, hfz, g1, g2, g4⟩
        obtain ⟨x2, s2, Z2, q1, q2, q3, q4⟩ := hfz
        rw [q1] at e
        simp only at e
        split at e
        · cases e
        rename_i ids hids
        split at e
        · cases e
        rename_i hall
        injection e with e
        obtain ⟨i1, i2, i3, _, i5⟩ := reach_sound 60 _ [] ids hids (by simp) (by simp) (by simp)
        simp only [Bool.and_eq_true] at hall
        have hlt : ∀ r ∈ ids, r.1 < vf.ntmps := fun r hr => by simpa using List.all_eq_true.1 hall.1 r hr
        have htr := k2.trans q3
        have hparam : ∀ r, (s2.sto.get r).isSome → vf.ntmps ≤ r.1 → True := fun _ _ _ => trivial
        have hroot : ∀ r ∈ x2.refs, r.1 < vf.ntmps → r ∈ ids := fun r hr hrl => i3 r (by
          rw [List.mem_filter]
          exact ⟨List.mem_append.2 (.inl hr), by simpa using hrl⟩)
        have hproot : ∀ i, i < cs.length → ∀ ob, s2.sto.get (vf.ntmps + i, 0) = some ob → ∀ r ∈ ob.refs, r.1 < vf.ntmps → r ∈ ids := fun i hi ob hob r hr hrl => i3 r (by
          rw [List.mem_filter]
          refine ⟨List.mem_append.2 (.inr ?_), by simpa using hrl⟩
          rw [List.mem_flatMap]
          exact ⟨some ob, by rw [List.mem_map]; exact ⟨i, List.mem_range.2 hi, hob⟩, hr⟩)
        have hx2 : ∀ r ∈ x2.refs, (s2.sto.get r).isSome → True := fun _ _ _ => trivial
        have hlive : RV (cxOf w1 Z2 L1 s2.sto) x2 u := by
          exact q4 fun r hr => List.all_eq_true.1 hall.2 r hr
        obtain ⟨f1, f2⟩ := func_out (m := cs.length) q2 htr rfl i1 hlt i2 i5 hlive hroot hproot
        have hret : c.ret = x2.map (outF vf.ntmps ids) := by rw [← e]; rfl
        have hpars : c.pars = outP s2.sto vf.ntmps cs.length ids := by
          rw [← e]
          simp only [List.map_map]
          rfl
        have hextra : c.extra = outX s2.sto vf.ntmps ids := by rw [← e]; rfl
        refine hQ u w1 (outL vf.ntmps ids L1 Lin) Z2 ?_ ?_
        · rw [hret, hpars, hextra]; exact f1
        · rw [hpars, hextra]; exact f2
      cases out with
      | norm => exact main
      | ret => exact main
      | exit id => exact (hne id rfl).elim

end
end Go.Vi
