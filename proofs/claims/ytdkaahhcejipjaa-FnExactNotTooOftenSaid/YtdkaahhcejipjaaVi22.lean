/- Regions whose order is drawn: sound. -/
import Derived.Test.YtdkaahhcejipjaaVi21
set_option linter.unusedVariables false
set_option linter.unusedSimpArgs false
namespace Go.Vi
open Go Go.RowKit
section
variable {P : Program} {call : FuncId → List AV → List (Option Obj) → Option CRes} {loop : Nat → St → Option (Out × St)}
variable {s : St} {a : Act} {w : World} {L : Id → Option Nat} {Z : Nat → Prop}

def offR (d : Option Nat) (ts : List Nat) : Bool := match d with
  | some d => !ts.contains d
  | none => true
def commV (x y : VOper) : Bool := stillV x.op && stillV y.op && offR x.dst (rdOper y) && offR y.dst (rdOper x) && (match x.dst with | some d => y.dst != some d | none => true)

theorem like_put {env : List AV} {d : Option Nat} {u : AV} {ts : List Nat} (h : offR d ts = true) : Like (putD env d u) env ts := by
  intro t ht
  cases d with
  | none => rfl
  | some d =>
    have hne : d ≠ t := by rintro rfl; simp [offR] at h; exact h ht
    simp only [putD]
    rw [List.getElem?_set_ne hne]
theorem like_put' {env : List AV} {d : Option Nat} {u : AV} {ts : List Nat} (h : offR d ts = true) : Like env (putD env d u) ts := fun t ht => (like_put h t ht).symm

theorem putD_comm {env : List AV} {d d' : Option Nat} {u u' : AV} (h : (match d with | some d => d' != some d | none => true) = true) : putD (putD env d u) d' u' = putD (putD env d' u') d u := by
  cases d with
  | none => rfl
  | some d => cases d' with
    | none => rfl
    | some d' =>
      have : d' ≠ d := by simpa using h
      simp only [putD]
      exact List.set_comm _ _ (fun e => this e.symm)

theorem comm_sound {x y : VOper} {s r : St} (h : commV x y = true) (e : execOps (real call loop) [x, y] s = some r) : execOps (real call loop) [y, x] s = some r := by
  simp only [commV, Bool.and_eq_true] at h
  obtain ⟨⟨⟨⟨h1, h2⟩, h3⟩, h4⟩, h5⟩ := h
  rw [execOps_cons] at e ⊢
  cases e1 : step1 (real call loop) x s with
  | none => simp [e1] at e
  | some s1 =>
    simp only [e1, execOps_one] at e
    obtain ⟨u, k1, k2⟩ := still_form h1 e1
    obtain ⟨u', m1, m2⟩ := still_form h2 e
    subst k1
    have := m2 s.env (like_put h3)
    simp only at this
    have hs : (⟨s.env, s.sto⟩ : St) = s := rfl
    rw [hs] at this
    simp only [this, execOps_one]
    rw [k2 _ (like_put' h4), m1]
    simp only
    rw [putD_comm h5]

theorem bubble {x : VOper} : ∀ {B : List VOper} {s r : St}, (∀ b ∈ B, commV x b = true) → execOps (real call loop) (x :: B) s = some r → execOps (real call loop) (B ++ [x]) s = some r
  | [], s, r, _, e => e
  | b :: B, s, r, h, e => by
    have e1 : execOps (real call loop) ([x, b] ++ B) s = some r := e
    rw [execOps_append] at e1
    split at e1
    case h_2 => cases e1
    case h_1 s1 hs1 =>
      have h2 := comm_sound (h b (by simp)) hs1
      rw [execOps_cons] at h2
      split at h2
      case h_2 => cases h2
      case h_1 s2 hs2 =>
        have h3 : execOps (real call loop) (x :: B) s2 = some r := by
          rw [execOps_cons]
          rw [execOps_one] at h2
          rw [h2]
          exact e1
        rw [List.cons_append, execOps_cons, hs2]
        exact bubble (fun c hc => h c (by simp [hc])) h3

def sel (p : Nat → Bool) : Nat → List VOper → List VOper
  | _, [] => []
  | k, v :: vs => if p k then v :: sel p (k + 1) vs else sel p (k + 1) vs
def restOk (dep : Nat → Nat → Bool) (i : Nat) (v : VOper) : Nat → List VOper → Bool
  | _, [] => true
  | j, u :: us => (dep i j || commV v u) && restOk dep i v (j + 1) us
def pairsOk (dep : Nat → Nat → Bool) : Nat → List VOper → Bool
  | _, [] => true
  | k, v :: vs => restOk dep k v (k + 1) vs && pairsOk dep (k + 1) vs

theorem rest_sel {dep : Nat → Nat → Bool} {i : Nat} {v : VOper} {p : Nat → Bool} : ∀ {vs : List VOper} {k : Nat}, restOk dep i v k vs = true → (∀ j, k ≤ j → p j = true → dep i j = false) → ∀ b ∈ sel p k vs, commV v b = true
  | [], k, _, _, b, hb => by simp [sel] at hb
  | u :: us, k, h, hp, b, hb => by
    simp only [restOk, Bool.and_eq_true] at h
    simp only [sel] at hb
    split at hb
    · rename_i hk
      rcases List.mem_cons.1 hb with rfl | hb
      · have := hp k (Nat.le_refl _) hk
        rw [this] at h
        simpa using h.1
      · exact rest_sel h.2 (fun j hj => hp j (by omega)) b hb
    · exact rest_sel h.2 (fun j hj => hp j (by omega)) b hb

theorem exists_sel {dep : Nat → Nat → Bool} {p : Nat → Bool} : ∀ {vs : List VOper} {k : Nat} {s r : St}, pairsOk dep k vs = true → (∀ i j, k ≤ i → i < j → p j = true → dep i j = true → p i = true) → execOps (real call loop) vs s = some r →
    ∃ r1, execOps (real call loop) (sel p k vs) s = some r1
  | [], k, s, r, _, _, e => ⟨s, rfl⟩
  | v :: vs, k, s, r, h, hp, e => by
    simp only [pairsOk, Bool.and_eq_true] at h
    rw [execOps_cons] at e
    split at e
    case h_2 => cases e
    case h_1 s1 hs1 =>
      obtain ⟨r1, hr1⟩ := exists_sel h.2 (fun i j hi => hp i j (by omega)) e
      simp only [sel]
      split
      · exact ⟨r1, by rw [execOps_cons, hs1]; exact hr1⟩
      · rename_i hk
        have hb := bubble (x := v) (B := sel p (k + 1) vs) (s := s) (r := r1) (rest_sel h.1 fun j hj hpj => by
          cases hd : dep k j with
          | false => rfl
          | true => exact (hk (hp k j (Nat.le_refl _) (by omega) hpj hd)).elim) (by rw [execOps_cons, hs1]; exact hr1)
        rw [execOps_append] at hb
        split at hb
        · rename_i s2 hs2; exact ⟨s2, hs2⟩
        · cases hb

theorem sel_congr {p p' : Nat → Bool} : ∀ {vs : List VOper} {k : Nat}, (∀ j, k ≤ j → p j = p' j) → sel p k vs = sel p' k vs
  | [], k, _ => rfl
  | v :: vs, k, h => by simp only [sel, h k (Nat.le_refl _), sel_congr (vs := vs) (k := k + 1) fun j hj => h j (by omega)]

theorem add_sel {dep : Nat → Nat → Bool} {p : Nat → Bool} {i : Nat} (hpi : p i = false) (hdep : ∀ j, i < j → p j = true → dep i j = false) : ∀ {vs : List VOper} {k : Nat} {s r : St} {v : VOper}, pairsOk dep k vs = true → k ≤ i → vs[i - k]? = some v →
    execOps (real call loop) (sel (fun j => p j || j == i) k vs) s = some r → execOps (real call loop) (sel p k vs ++ [v]) s = some r
  | [], k, s, r, v, _, _, hv, _ => by simp at hv
  | u :: us, k, s, r, v, h, hk, hv, e => by
    simp only [pairsOk, Bool.and_eq_true] at h
    by_cases hik : i = k
    · subst hik
      simp at hv
      subst hv
      have e1 : sel (fun j => p j || j == i) i (u :: us) = u :: sel p (i + 1) us := by
        simp only [sel, hpi, beq_self_eq_true, Bool.or_true, if_true]
        congr 1
        exact sel_congr fun j hj => by
          have : (j == i) = false := by simp; omega
          simp [this]
      have e2 : sel p i (u :: us) = sel p (i + 1) us := by simp [sel, hpi]
      rw [e1] at e
      rw [e2]
      exact bubble (rest_sel h.1 fun j hj hpj => hdep j (by omega) hpj) e
    · have hlt : k + 1 ≤ i := by omega
      have hv' : us[i - (k + 1)]? = some v := by
        have : i - k = (i - (k + 1)) + 1 := by omega
        rw [this] at hv
        simpa using hv
      have hki : (k == i) = false := by simp; omega
      simp only [sel, hki, Bool.or_false] at e ⊢
      split at e
      · rename_i hpk
        rw [execOps_cons] at e
        split at e
        case h_2 => cases e
        case h_1 s1 hs1 =>
          have ih := add_sel hpi hdep h.2 hlt hv' e
          simp only [hpk, if_true, List.cons_append]
          rw [execOps_cons, hs1]
          exact ih
      · rename_i hpk
        simp only [hpk, if_false, Bool.false_eq_true]
        exact add_sel hpi hdep h.2 hlt hv' e

theorem sel_all {p : Nat → Bool} : ∀ {vs : List VOper} {k : Nat}, (∀ j, k ≤ j → j < k + vs.length → p j = true) → sel p k vs = vs
  | [], k, _ => rfl
  | v :: vs, k, h => by
    simp only [sel, h k (Nat.le_refl _) (by simp), if_true]
    rw [sel_all fun j hj hl => h j (by omega) (by simp; omega)]

/-! ### the operations of a region, and what they wait for -/

def reaches (ops : Array Oper) : Nat → Nat → Nat → Bool
  | 0, _, _ => false
  | n + 1, j, i => match ops[j]? with
    | some o => o.after.toList.any fun e => Region.binds .any e && (e.on == i || reaches ops n e.on i)
    | none => false
def backOk (ops : Array Oper) : Bool := (List.range ops.size).all fun j => match ops[j]? with
  | some o => o.after.toList.all fun e => !Region.binds .any e || decide (e.on < j)
  | none => true
def okDraw (P : Program) (np : Nat) (ops : Array Oper) (vs : List VOper) : Bool :=
  okIx P np ops (List.range ops.size) vs && backOk ops && pairsOk (fun i j => reaches ops 3 j i) 0 vs

theorem okIx_get {np : Nat} {ops : Array Oper} : ∀ {is : List Nat} {vs : List VOper}, okIx P np ops is vs = true → is.length = vs.length ∧ ∀ (i j : Nat) (v : VOper), is[i]? = some j → vs[i]? = some v → ∃ o, ops[j]? = some o ∧ okOper P np ops o v = true
  | [], [], _ => by simp
  | i :: is, v :: vs, h => by
    simp only [okIx, Bool.and_eq_true] at h
    obtain ⟨h1, h2⟩ := h
    obtain ⟨k1, k2⟩ := okIx_get h2
    refine ⟨by simp [k1], fun m j u hm hu => ?_⟩
    cases m with
    | zero =>
      simp at hm hu
      subst hm; subst hu
      split at h1
      · rename_i o ho; exact ⟨o, ho, h1⟩
      · cases h1
    | succ m => simp at hm hu; exact k2 m j u hm hu
  | [], _ :: _, h => by simp [okIx] at h
  | _ :: _, [], h => by simp [okIx] at h

def Closed (ops : Array Oper) (listed : Array Bool) : Prop := ∀ j, listed.getD j false = true → ∀ o, ops[j]? = some o → ∀ e ∈ o.after, Region.binds .any e = true → listed.getD e.on false = true

theorem closed_reaches {ops : Array Oper} {listed : Array Bool} (hc : Closed ops listed) : ∀ {n j i : Nat}, listed.getD j false = true → reaches ops n j i = true → listed.getD i false = true
  | 0, j, i, _, h => by simp [reaches] at h
  | n + 1, j, i, hj, h => by
    simp only [reaches] at h
    split at h
    case h_2 => cases h
    case h_1 o ho =>
      obtain ⟨e, he, hb⟩ := List.any_eq_true.1 h
      simp only [Bool.and_eq_true, Bool.or_eq_true, beq_iff_eq] at hb
      have h1 := hc j hj o ho e (by simpa using he) hb.1
      rcases hb.2 with h2 | h2
      · exact h2 ▸ h1
      · exact closed_reaches hc h1 h2

def unlisted (listed : Array Bool) : Nat := listed.toList.countP (fun b => !b)

theorem unlisted_set {listed : Array Bool} {i : Nat} (hi : i < listed.size) (h : listed.getD i false = false) : unlisted (listed.setIfInBounds i true) + 1 = unlisted listed := by
  unfold unlisted
  rw [Array.toList_setIfInBounds]
  have key : ∀ (l : List Bool) (i : Nat), l[i]? = some false → (l.set i true).countP (fun b => !b) + 1 = l.countP (fun b => !b) := by
    intro l
    induction l with
    | nil => intro i h; simp at h
    | cons b l ih =>
      intro i h
      cases i with
      | zero => simp at h; subst h; simp [List.countP_cons]
      | succ i =>
        simp at h
        simp only [List.set_cons_succ, List.countP_cons]
        have := ih i h
        omega
  exact key _ i (by simp [Array.getD, hi] at h; simp [hi, h])

theorem draw_sound {np : Nat} {ops : Array Oper} {vs : List VOper} {s0 s' : St} {w0 : World} {L0 : Id → Option Nat} {Z0 : Nat → Prop} (hco : CallOk P call) (hok : okDraw P np ops vs = true) (e : execOps (real call loop) vs s0 = some s') (Q : Exit → Act → World → Prop)
    (hQ : ∀ a' w' L' Z', RS s' a' w' L' Z' → Tr np s0.sto s'.sto w0 w' L0 L' Z0 Z' → Q .normal a' w') :
    ∀ (fuel : Nat) (listed : Array Bool) (sS : St) (a : Act) (w : World) (L : Id → Option Nat) (Z : Nat → Prop), listed.size = ops.size → unlisted listed = fuel → Closed ops listed →
      execOps (real call loop) (sel (fun j => listed.getD j false) 0 vs) s0 = some sS → RS sS a w L Z → Tr np s0.sto sS.sto w0 w L0 L Z0 Z → wpAny P .any ops Q fuel listed a w := by
  simp only [okDraw, Bool.and_eq_true] at hok
  obtain ⟨⟨h1, h2⟩, h3⟩ := hok
  obtain ⟨hlen, hget⟩ := okIx_get h1
  have hlen' : vs.length = ops.size := by rw [← hlen]; simp
  have hdone : ∀ (listed : Array Bool) (sS : St) (a : Act) (w : World) (L : Id → Option Nat) (Z : Nat → Prop), listed.size = ops.size → Region.ready .any ops listed = [] → execOps (real call loop) (sel (fun j => listed.getD j false) 0 vs) s0 = some sS → RS sS a w L Z → Tr np s0.sto sS.sto w0 w L0 L Z0 Z → Q .normal a w := by
    intro listed sS a w L Z hsz hr hs h t
    have hall : ∀ j, j < ops.size → listed.getD j false = true := by
      intro j
      induction j using Nat.strongRecOn with
      | _ j ih =>
        intro hj
        cases hl : listed.getD j false with
        | true => rfl
        | false =>
          exfalso
          have hlt : j < listed.size := by omega
          have hmem : j ∈ Region.ready .any ops listed := by
            rw [mem_ready]
            refine ⟨by simp [Array.getD, hlt] at hl ⊢; exact hl, ops[j], by simp [hj], fun e he hb => ?_⟩
            have := List.all_eq_true.1 h2 j (List.mem_range.2 hj)
            simp only [Array.getElem?_eq_getElem hj] at this
            have := List.all_eq_true.1 this e (by simpa using he)
            simp only [hb, Bool.not_true, Bool.false_or, decide_eq_true_eq] at this
            exact ih e.on this (by omega)
          rw [hr] at hmem
          cases hmem
    rw [sel_all (fun j _ hj => hall j (by omega))] at hs
    rw [e] at hs
    injection hs with hs
    subst hs
    exact hQ a w L Z h t
  intro fuel
  induction fuel with
  | zero =>
    intro listed sS a w L Z hsz hu hc hs h t
    have hr : Region.ready .any ops listed = [] := by
      cases hrr : Region.ready .any ops listed with
      | nil => rfl
      | cons i l =>
        exfalso
        have hm : i ∈ Region.ready .any ops listed := by rw [hrr]; simp
        obtain ⟨m1, o, m2, _⟩ := mem_ready.1 hm
        have hi : i < listed.size := by rw [hsz]; exact (Array.getElem?_eq_some_iff.1 m2).1
        have := unlisted_set hi (by simp [Array.getD, hi] at m1 ⊢; exact m1)
        omega
    exact ⟨hr, hdone listed sS a w L Z hsz hr hs h t⟩
  | succ fuel ih =>
    intro listed sS a w L Z hsz hu hc hs h t
    refine ⟨fun hr => hdone listed sS a w L Z hsz hr hs h t, fun i hi => ?_⟩
    obtain ⟨m1, o, m2, m3⟩ := mem_ready.1 hi
    have hio : i < ops.size := (Array.getElem?_eq_some_iff.1 m2).1
    have hil : i < listed.size := by omega
    have hpi : listed.getD i false = false := by simp [Array.getD, hil] at m1 ⊢; exact m1
    obtain ⟨v, hv⟩ : ∃ v, vs[i]? = some v := ⟨_, List.getElem?_eq_getElem (by omega)⟩
    obtain ⟨o', ho', hoo⟩ := hget i i v (by simp [hio]) hv
    have : o' = o := by rw [m2] at ho'; injection ho' with ho'; exact ho'.symm
    subst this
    have hset : ∀ j, (listed.setIfInBounds i true).getD j false = (listed.getD j false || j == i) := by
      intro j
      by_cases hj : i = j
      · subst hj; simp [Array.getD, hil]
      · rw [getD_set_ne false hj]
        have : (j == i) = false := by simp; exact fun e => hj e.symm
        simp [this]
    have hc' : Closed ops (listed.setIfInBounds i true) := by
      intro j hj oj hoj ee hee hb
      rw [hset] at hj ⊢
      rcases Bool.or_eq_true _ _ ▸ hj with hj | hj
      · rw [hc j hj oj hoj ee hee hb]; rfl
      · have : j = i := by simpa using hj
        subst this
        rw [m2] at hoj; injection hoj with hoj; subst hoj
        rw [m3 ee hee hb]; rfl
    obtain ⟨r1, hr1⟩ := exists_sel (p := fun j => (listed.setIfInBounds i true).getD j false) (k := 0) h3 (fun x y _ _ hy hd => closed_reaches hc' hy hd) e
    have hr1' := hr1
    rw [sel_congr (p' := fun j => listed.getD j false || j == i) (fun j _ => hset j)] at hr1'
    have hadd := add_sel (p := fun j => listed.getD j false) (i := i) (k := 0) (v := v) hpi (fun j _ hj => by
      cases hd : reaches ops 3 j i with
      | false => rfl
      | true => have := closed_reaches hc hj hd; rw [hpi] at this; cases this) h3 (Nat.zero_le _) (by simpa using hv) hr1'
    rw [execOps_append, hs] at hadd
    simp only at hadd
    have hop := oper_sound (np := np) (Q := Q) (K := wpAny P .any ops Q fuel (listed.setIfInBounds i true)) hco h hoo hadd fun s1 a1 w1 L1 Z1 k1 k2 k3 => by
      simp only [execOps] at k3
      injection k3 with k3
      subst k3
      exact ih (listed.setIfInBounds i true) s1 a1 w1 L1 Z1 (by simpa using hsz) (by have := unlisted_set hil hpi; omega) hc' hr1 k1 (t.trans k2)
    unfold wpOp
    simp only [m2]
    exact hop

/-- A drawn region. -/
theorem region_any {np id : Nat} {ops : Array Oper} {vs : List VOper} {s s' : St} {a : Act} {w : World} {L : Id → Option Nat} {Z : Nat → Prop} (hmix : P.follows .mixedOrders = true) (hco : CallOk P call) (hok : okDraw P np ops vs = true) (h : RS s a w L Z) (e : execOps (real call loop) vs s = some s') (Q : Exit → Act → World → Prop)
    (hQ : ∀ a' w' L' Z', RS s' a' w' L' Z' → Tr np s.sto s'.sto w w' L L' Z Z' → Q .normal a' w') : (Code.region id ops true).wp P Q a w := by
  obtain ⟨k1, k2⟩ := h.more (w' := { w with drawn := w.drawn + 1 }) np (fun _ _ => rfl) (Nat.le_refl _) rfl rfl rfl
  refine wp_region_any hmix (draw_sound hco hok e Q hQ ops.size _ s a _ L Z (by simp) ?_ ?_ ?_ k1 k2)
  · unfold unlisted
    simp [List.countP_replicate]
  · intro j hj
    exfalso
    by_cases hjs : j < ops.size <;> simp [Array.getD, hjs] at hj
  · have : ∀ (vs : List VOper) (k : Nat), sel (fun j => (Array.replicate ops.size false).getD j false) k vs = [] := by
      intro vs
      induction vs with
      | nil => intro k; rfl
      | cons v vs ih =>
        intro k
        have : (Array.replicate ops.size false).getD k false = false := by
          by_cases hk : k < ops.size <;> simp [Array.getD, hk]
        simp only [sel, this, Bool.false_eq_true, if_false, ih]
    rw [this]
    rfl

end
end Go.Vi
