/- Operations that write: stores, and rows of the run's own. -/
import Derived.Test.YtdkaahhcejipjaaOVi7
set_option linter.unusedVariables false
set_option linter.unusedSimpArgs false
set_option linter.unnecessarySimpa false
set_option linter.unusedSectionVars false
namespace Go.Vi
open Go Go.RowKit
section
variable {P : Program} {call : FuncId → List AV → List (Option Obj) → Option CRes} {loop : Nat → St → Option (Out × St)}
variable {s : St} {a : Act} {w : World} {L : Loc} {Z : Nat → Prop}

mutual
theorem RD_not_tup {w : World} {Z : Nat → Prop} : ∀ (y : D) (cs : Array Value), ¬ RD w Z y [.tuple cs]
  | .int k n, cs, h => by simp [RD] at h
  | .bool b, cs, h => by simp [RD] at h
  | .str s, cs, h => by simp [RD] at h
  | .lst xs, cs, h => by simp only [RD] at h; obtain ⟨_, _, h, _⟩ := h; simp at h
  | .agg ds, cs, h => by simp only [RD] at h; exact RDs_not_tup ds cs h
theorem RDs_not_tup {w : World} {Z : Nat → Prop} : ∀ (y : List D) (cs : Array Value), ¬ RDs w Z y [.tuple cs]
  | [], cs, h => by simp [RDs] at h
  | d :: ds, cs, h => by
    simp only [RDs] at h
    obtain ⟨v, cs', h1, h2, _⟩ := h
    simp at h1
    obtain ⟨rfl, _⟩ := h1
    exact RD_not_tup d cs h2
end

theorem RD_one {w : World} {Z : Nat → Prop} {y : D} {v : Value} (h : RD w Z y [v]) : v.oneCell' = true := by
  cases v <;> first | rfl | exact (RD_not_agg _ _ h).elim | exact (RD_not_tup _ _ h).elim

theorem RV_one {c : Cx} {x : AV} {v : Value} (h : RV c x v) (hx : x.one = true) : v.oneCell' = true := by
  cases x with
  | undef => cases hx
  | bare => cases hx
  | agg _ => cases hx
  | tup _ => cases hx
  | d y => simp only [RV] at h; exact RD_one h
  | nilp => simp only [RV] at h; rw [h]; rfl
  | emp => simp only [RV] at h; obtain ⟨A, h⟩ := h; rw [h]; rfl
  | ptr r o => simp only [RV] at h; obtain ⟨b, _, _, h⟩ := h; rw [h]; rfl
  | prow r sz i o => simp only [RV] at h; obtain ⟨b, _, _, _, h⟩ := h; rw [h]; rfl
  | sp cs' o => simp only [RV] at h; obtain ⟨b, _, _, h, _⟩ := h; rw [h]; rfl
  | arr r sz g u => simp only [RV] at h; obtain ⟨_, _, _, _, h, _⟩ := h; rw [h]; rfl
  | fn f as => simp only [RV] at h; obtain ⟨_, h, _⟩ := h; rw [h]; rfl

theorem RVs_one {c : Cx} {xs : List AV} {vs : List Value} (h : RVs c xs vs) (hx : xs.all AV.one = true) : ∀ v ∈ vs, v.oneCell' = true := by
  obtain ⟨h1, h2⟩ := RVs_iff.1 h
  intro v hv
  obtain ⟨i, hi⟩ := List.getElem?_of_mem hv
  have hlt : i < xs.length := by rw [h1]; exact (List.getElem?_eq_some_iff.1 hi).1
  exact RV_one (h2 i xs[i] v (List.getElem?_eq_getElem hlt) hi) (List.all_eq_true.1 hx _ (List.getElem_mem hlt))

theorem lay_some {α : Type} {l v r : List α} {off : Nat} (e : lay l off v = some r) : off + v.length ≤ l.length ∧ r = l.take off ++ v ++ l.drop (off + v.length) := by
  unfold lay at e
  split at e
  · injection e with e; exact ⟨by assumption, e.symm⟩
  · cases e

theorem lay_len {α : Type} {l v r : List α} {off : Nat} (e : lay l off v = some r) : r.length = l.length := by
  obtain ⟨h, rfl⟩ := lay_some e
  simp; omega

theorem lay_getElem? {α : Type} {l v r : List α} {off : Nat} (e : lay l off v = some r) (i : Nat) : r[i]? = if off ≤ i ∧ i < off + v.length then v[i - off]? else l[i]? := by
  obtain ⟨h, rfl⟩ := lay_some e
  simp only [List.getElem?_append, List.length_append, List.length_take, List.getElem?_take, List.getElem?_drop]
  by_cases h1 : i < off
  · have : min off l.length = off := by omega
    simp [h1, this]
    rw [if_pos (by omega), if_neg (by omega)]
  · by_cases h2 : i < off + v.length
    · have : min off l.length = off := by omega
      rw [this, if_pos (by omega), if_neg h1, if_pos (by omega)]
    · have : min off l.length = off := by omega
      rw [this, if_neg (by omega), if_neg (by omega)]
      congr 1; omega

theorem RVs_lay {c : Cx} {as bs rs : List AV} {vs us : List Value} {off : Nat} (h : RVs c as vs) (k : RVs c bs us) (e : lay as off bs = some rs) : RVs c rs (vs.take off ++ us ++ vs.drop (off + us.length)) := by
  obtain ⟨h1, h2⟩ := RVs_iff.1 h
  obtain ⟨k1, k2⟩ := RVs_iff.1 k
  obtain ⟨e1, _⟩ := lay_some e
  have e2 : lay vs off us = some (vs.take off ++ us ++ vs.drop (off + us.length)) := by unfold lay; rw [if_pos (by omega)]
  refine RVs_iff.2 ⟨by rw [lay_len e, lay_len e2, h1], fun i x v hx hv => ?_⟩
  rw [lay_getElem? e] at hx
  rw [lay_getElem? e2] at hv
  by_cases hc : off ≤ i ∧ i < off + bs.length
  · rw [if_pos hc] at hx
    rw [if_pos (by omega)] at hv
    exact k2 _ x v hx hv
  · rw [if_neg hc] at hx
    rw [if_neg (by omega)] at hv
    exact h2 _ x v hx hv

theorem run_storeVar {ty : TypeId} {i : TypeInfo} (hi : P.info? ty = some i) {v : Value} (hs : v.cells.size = i.size) {g off : Nat} {cur : Array Value} {t : TypeId} (hg : w.heap[g]? = some (.cells cur t (0, 0))) (hb : off + v.cells.size ≤ cur.size)
    (h1 : ∀ u ∈ v.cells.toList, u.oneCell' = true) :
    (storeVar ty ⟨g, off, none⟩ v).run P w = .ok () (w.setRow g (cur.toList.take off ++ v.cells.toList ++ cur.toList.drop (off + v.cells.toList.length)).toArray) := by
  have := run_storeCells_at P g off t v.cells.toList 0 cur w hg (by simpa using hb) h1
  simp only [Nat.add_zero] at this
  simp [storeVar, sizeOf, typeInfo, hi, hs, this]

theorem dL_RDs {w : World} {Z : Nat → Prop} {L : Loc} {ob : Id → Option Obj} : ∀ {xs : List AV} {ds : List D} {vs : List Value}, dL xs = some ds → RVs ⟨w, Z, L, ob⟩ xs vs → RDs w Z ds vs
  | [], ds, vs, e, h => by simp only [dL] at e; injection e with e; subst e; simpa only [RVs, RDs] using h
  | x :: xs, ds, vs, e, h => by
    cases x with
    | d y =>
      simp only [dL] at e
      split at e
      · rename_i ys e2
        injection e with e; subst e
        simp only [RVs] at h
        obtain ⟨v, vs', h1, h2, h3⟩ := h
        simp only [RV] at h2
        simp only [RDs]
        exact ⟨v, vs', h1, h2, dL_RDs e2 h3⟩
      · cases e
    | _ => simp [dL] at e

theorem dL_refs : ∀ {xs : List AV} {ds : List D}, dL xs = some ds → AV.refsL xs = []
  | [], ds, e => by simp [AV.refsL]
  | x :: xs, ds, e => by
    cases x with
    | d y =>
      simp only [dL] at e
      split at e
      · rename_i ys e2; simp [AV.refsL, AV.refs, dL_refs e2]
      · cases e
    | _ => simp [dL] at e

theorem D_ofCells {agg : Bool} {cs : List D} {x : D} (h : D.ofCells agg cs = some x) : x.cells = cs := by
  cases agg with
  | true => simp [D.ofCells] at h; subst h; rfl
  | false =>
    cases cs with
    | nil => simp [D.ofCells] at h
    | cons y l => cases l with
      | nil =>
        simp only [D.ofCells] at h
        split at h
        · cases h
        · rename_i hm
          injection h with h; subst h
          cases y <;> first | rfl | simp [D.many] at hm
      | cons z l => simp [D.ofCells] at h

theorem RD_of_cells {w : World} {Z : Nat → Prop} {x : D} {cs : List Value} (h : RDs w Z x.cells cs) : RD w Z x cs := by
  cases x with
  | agg ds => simpa only [RD, D.cells] using h
  | _ =>
    simp only [D.cells, RDs] at h
    obtain ⟨v, cs', rfl, h1, rfl⟩ := h
    exact h1

/-- A row of which one element is written. -/
theorem Rows_set {Z : Nat → Prop} {b sz n off : Nat} {vs : Array Value} {t : TypeId} {xs : List D} {us cs : List Value} {e' : D} (hheap : w.heap[b]? = some (.cells vs t (0, 0))) (hrows : Rows w Z xs b 0 sz)
    (hz : ZLe w (w.setRow b (vs.toList.take (n * sz + off) ++ us ++ vs.toList.drop (n * sz + off + us.length)).toArray) Z Z) (hn : n < xs.length) (hcs : cs.length = sz) (hcells : ∀ j v, cs[j]? = some v → w.cell? ⟨b, 0 + n * sz + j, none⟩ = some v)
    (ho : off + us.length ≤ sz) (hb : n * sz + off + us.length ≤ vs.size)
    (he : RDs w Z e'.cells (cs.take off ++ us ++ cs.drop (off + us.length))) :
    Rows (w.setRow b (vs.toList.take (n * sz + off) ++ us ++ vs.toList.drop (n * sz + off + us.length)).toArray) Z (xs.set n e') b 0 sz := by
  have e1 : lay vs.toList (n * sz + off) us = some (vs.toList.take (n * sz + off) ++ us ++ vs.toList.drop (n * sz + off + us.length)) := by unfold lay; rw [if_pos (by simpa using hb)]
  have e2 : lay cs off us = some (cs.take off ++ us ++ cs.drop (off + us.length)) := by unfold lay; rw [if_pos (by omega)]
  have hcell : ∀ j, (w.setRow b (vs.toList.take (n * sz + off) ++ us ++ vs.toList.drop (n * sz + off + us.length)).toArray).cell? ⟨b, j, none⟩ =
      if n * sz + off ≤ j ∧ j < n * sz + off + us.length then us[j - (n * sz + off)]? else w.cell? ⟨b, j, none⟩ := by
    intro j
    rw [cell_setRow_same w b j vs _ t (0, 0) hheap]
    simp only [List.getElem?_toArray]
    rw [lay_getElem? e1]
    split
    · rfl
    · simp [World.cell?, hheap]
  rw [Rows_iff] at hrows ⊢
  intro i x hx
  by_cases hi : i = n
  · subst hi
    rw [List.getElem?_set_self hn] at hx
    injection hx with hx
    subst hx
    refine ⟨cs.take off ++ us ++ cs.drop (off + us.length), by rw [lay_len e2, hcs], RD_mono hz _ _ (RD_of_cells he), fun j v hj => ?_⟩
    rw [hcell]
    rw [lay_getElem? e2] at hj
    by_cases hc : off ≤ j ∧ j < off + us.length
    · rw [if_pos hc] at hj
      rw [if_pos (by omega)]
      rw [show 0 + i * sz + j - (i * sz + off) = j - off by omega]
      exact hj
    · rw [if_neg hc] at hj
      rw [if_neg (by omega)]
      exact hcells j v hj
  · rw [List.getElem?_set_ne (Ne.symm hi)] at hx
    obtain ⟨cs', h1, h2, h3⟩ := hrows i x hx
    refine ⟨cs', h1, RD_mono hz _ _ h2, fun j v hj => ?_⟩
    have hj' : j < sz := by rw [← h1]; exact (List.getElem?_eq_some_iff.1 hj).1
    rw [hcell, if_neg]
    · exact h3 j v hj
    · rintro ⟨q1, q2⟩
      rcases Nat.lt_or_gt_of_ne hi with hlt | hgt
      · have : (i + 1) * sz ≤ n * sz := Nat.mul_le_mul_right _ hlt
        rw [Nat.succ_mul] at this
        omega
      · have : (n + 1) * sz ≤ i * sz := Nat.mul_le_mul_right _ hgt
        rw [Nat.succ_mul] at this
        omega

theorem OCs_len {w : World} {Z : Nat → Prop} : ∀ {xs : List D} {vs : List Value} {F : List Nat}, OCs w Z xs vs F → vs.length = xs.length
  | [], vs, F, h => by simp only [OCs] at h; rw [h.1]; rfl
  | x :: xs, vs, F, h => by
    simp only [OCs] at h
    obtain ⟨v, vs', F1, F2, rfl, _, _, h2⟩ := h
    simp [OCs_len h2]

/-- Cells within an element of a row are written over. -/
theorem splice {α : Type} {S us v1 v2 v3 : List α} {p off sz : Nat} (hseg : (S.drop p).take sz = v1 ++ (v2 ++ v3)) (h1 : v1.length = off) (h2 : v2.length = us.length) (hs : p + sz ≤ S.length) (hl : off + us.length ≤ sz) :
    (∀ j, j < p → (S.take (p + off) ++ us ++ S.drop (p + off + us.length))[j]? = S[j]?) ∧
    ((S.take (p + off) ++ us ++ S.drop (p + off + us.length)).drop p).take sz = v1 ++ (us ++ v3) ∧
    (S.take (p + off) ++ us ++ S.drop (p + off + us.length)).drop (p + sz) = S.drop (p + sz) := by
  have hget : ∀ j, (S.take (p + off) ++ us ++ S.drop (p + off + us.length))[j]? = if j < p + off then S[j]? else if j < p + off + us.length then us[j - (p + off)]? else S[j]? := by
    intro j
    rw [List.append_assoc, List.getElem?_append, List.length_take, Nat.min_eq_left (by omega)]
    split
    · rename_i hj; rw [List.getElem?_take, if_pos hj]
    · rename_i hj
      rw [List.getElem?_append]
      split
      · rename_i hk; rw [if_pos (by omega)]
      · rename_i hk
        rw [if_neg (by omega), List.getElem?_drop]
        congr 1
        omega
  have hlen3 : off + us.length + v3.length = sz := by
    have := congrArg List.length hseg
    simp at this
    omega
  have hS : ∀ j, j < sz → S[p + j]? = (v1 ++ (v2 ++ v3))[j]? := by
    intro j hj
    rw [← hseg, List.getElem?_take, if_pos hj, List.getElem?_drop]
  refine ⟨fun j hj => by rw [hget, if_pos (by omega)], ?_, ?_⟩
  · apply List.ext_getElem?
    intro j
    rw [List.getElem?_take]
    split
    · rename_i hj
      rw [List.getElem?_drop, hget]
      have hS' := hS j hj
      by_cases c1 : j < off
      · rw [if_pos (by omega), hS', List.getElem?_append_left (by omega), List.getElem?_append_left (by omega)]
      · rw [if_neg (by omega), List.getElem?_append_right (by omega)]
        by_cases c2 : j < off + us.length
        · rw [if_pos (by omega), List.getElem?_append_left (by omega)]
          congr 1
          omega
        · rw [if_neg (by omega), hS', List.getElem?_append_right (by omega), List.getElem?_append_right (by omega), List.getElem?_append_right (by omega), h2]
    · rename_i hj
      rw [List.getElem?_eq_none]
      simp only [List.length_append]
      omega
  · apply List.ext_getElem?
    intro j
    rw [List.getElem?_drop, List.getElem?_drop, hget, if_neg (by omega), if_neg (by omega)]

theorem goes_store (np : Nat) {s' : St} {o : Oper} {ty : TypeId} {i : TypeInfo} {x y : Operand} {x' y' : VX} (h : RS s a w L Z) (ho : o.op = .store ty x y) (hx : okX x x' = true) (hy : okX y y' = true) (hi : P.info? ty = some i)
    {p v : AV} (e1 : ev s.env x' = some p) (e2 : ev s.env y' = some v) (es : storeAt (real call loop) s i.size p v = some s') : Goes P np o s a w L Z .bare s' := by
  have hp := ev_sound h hx e1
  have hv := ev_sound h hy e2
  unfold storeAt at es
  simp only at es
  split at es
  · cases es
  rename_i hc
  simp only [Bool.or_eq_true, not_or, bne_iff_ne, ne_eq, decide_eq_true_eq, Decidable.not_not, Bool.not_eq_true', Bool.not_eq_false] at hc
  obtain ⟨hlen, hone⟩ := hc
  have hcells : RVs (cxOf w Z L s.sto) v.cells (a.eval y).cells.toList := by
    refine RV_cells hv ?_ ?_ ?_
    · rintro vs rfl; simp [AV.cells, AV.one] at hone
    · rintro rfl; simp [AV.cells, AV.one] at hone
    · rintro rfl; simp [AV.cells, AV.one] at hone
  have hsz : (a.eval y).cells.size = i.size := by rw [← Array.length_toList, ← (RVs_iff.1 hcells).1, hlen]
  have hone' := RVs_one hcells hone
  have hrun : ∀ {ad : Addr} {w' : World}, a.eval x = .pointer (some ad) → (storeVar ty ad (a.eval y)).run P w = .ok () w' → (execOp a.eval o).run P w = .ok .skip w' := by
    intro ad w' hq hm
    unfold execOp
    rw [ho]
    simp only [Instr.storeAt, hq, Instr.sureAddr]
    simp [hm]
  split at es
  · -- a box
    rename_i r off
    split at es
    case h_2 => cases es
    case h_1 cs hr =>
      split at es
      case h_2 => cases es
      case h_1 cs' hlay =>
        injection es with es; subst es
        simp only [RV] at hp
        obtain ⟨b, _, hb, hpp⟩ := hp
        have hro := h.obj r _ hr
        simp only [RO] at hro
        obtain ⟨b', vs, tt, hb', hheap, hvs⟩ := hro
        have : b' = b := by have : some b' = some b := hb'.symm.trans hb; injection this
        subst this
        have hlen' := (RVs_iff.1 hvs).1
        obtain ⟨hl1, _⟩ := lay_some hlay
        have hbound : off + (a.eval y).cells.size ≤ vs.size := by simp at hlen'; omega
        have hst := run_storeVar (P := P) hi hsz hheap hbound hone'
        obtain ⟨k1, k2⟩ := h.write (w' := w.setRow b' (vs.toList.take off ++ (a.eval y).cells.toList ++ vs.toList.drop (off + (a.eval y).cells.toList.length)).toArray) (ob' := .box cs') np hr hb
          rfl rfl rfl (by simp) (fun k hk => setRow_other _ _ _ _ hk) (by
            simp only [blkSize, setRow_heap w b' vs _ tt (0, 0) hheap, hheap]
            simp; omega) (fun sz xs e => by cases e) (fun e => by cases e) (fun hsame hz => by
            simp only [RO]
            refine ⟨b', _, tt, hb, setRow_heap w b' vs _ tt (0, 0) hheap, ?_⟩
            have := RVs_lay hvs hcells hlay
            refine RVs_mono (c := cxOf w Z L s.sto) hz _ _ (fun q hq => hsame q (RVs_refs _ _ this q hq)) (by simpa using this))
        exact Goes.skip (hrun hpp hst) k1 k2
  · -- a row
    rename_i r sz n off
    split at es
    case h_1 sz0 xs0 hr0 =>
      -- of what is owned
      split at es
      case h_2 => cases es
      case h_1 ds s2 hown =>
        split at es
        case h_2 => cases es
        case h_1 sz' xs hr =>
          split at es
          case h_2 => cases es
          case h_1 cs he =>
            split at es
            case isFalse => cases es
            case isTrue hc2 =>
              split at es
              case h_2 => cases es
              case h_1 cs' hlay =>
                injection es with es
                subst es
                obtain ⟨hsz', hcl⟩ := hc2
                subst hsz'
                obtain ⟨f1, f2, f3, F, f4, f5, f6⟩ := ownL_sound np v.cells _ s s2 ds h (Kept.refl _ _ _ _) hcells hown
                have hp2 : RV (cxOf w Z L s2.sto) (.prow r sz n off) (a.eval x) := f3.rv (by intro q hq; simp [AV.refs] at hq; subst hq; simp [hr]) hp
                simp only [RV] at hp2
                obtain ⟨b, _, hb, hn0, hpp⟩ := hp2
                have hro := f1.obj r _ hr
                simp only [RO] at hro
                obtain ⟨vs, G, hheap, hcap, g3, g4, g5⟩ := hro.2 b hb
                obtain ⟨k1, k2, k3⟩ := elt_some he
                obtain ⟨A, Fi, B, rfl, a1, a2, a3, a4⟩ := OEs_at g3 k2
                simp only [OE] at a2
                obtain ⟨hl1, hl2⟩ := lay_some hlay
                have hus := OCs_len f4
                have hcsplit : cs = cs.take off ++ ((cs.drop off).take ds.length ++ cs.drop (off + ds.length)) := by
                  rw [← List.drop_drop, List.take_append_drop, List.take_append_drop]
                rw [hcsplit] at a2
                obtain ⟨v1, v23, A1, F23, hseg, rfl, q1, q2, q3⟩ := OCs_append.1 a2
                obtain ⟨v2, v3, M, B1, rfl, rfl, q4, q5, q6⟩ := OCs_append.1 q3
                have q1' : v1.length = off := by rw [q1, List.length_take]; omega
                have q4' : v2.length = (a.eval y).cells.toList.length := by rw [q4, List.length_take, List.length_drop, hus]; omega
                rw [Nat.succ_mul] at a3 a4
                rw [Array.length_toList] at a4
                obtain ⟨w1, w2, w3⟩ := splice (us := (a.eval y).cells.toList) hseg q1' q4' (by simpa using a4) (by rw [hus]; omega)
                have hbound : n.toNat * sz.2 + off + (a.eval y).cells.size ≤ vs.size := by
                  have : (a.eval y).cells.size = ds.length := by rw [← Array.length_toList]; exact hus
                  omega
                have hst := run_storeVar (P := P) hi hsz hheap hbound hone'
                have hnd := List.nodup_cons.1 g4
                -- the blocks that come
                have hGl : ∀ k, k ∈ b :: (A ++ (A1 ++ (M ++ B1)) ++ B) → Lives s2.sto L k := fun k hk => by
                  rcases List.mem_cons.1 hk with rfl | hk
                  · exact ⟨r, _, hr, .inl hb⟩
                  · exact ⟨r, _, hr, .inr ⟨rfl, (g5 k).2 hk⟩⟩
                have hFG : ∀ k, k ∈ F → k ∉ b :: (A ++ (A1 ++ (M ++ B1)) ++ B) := fun k hk hk2 => (f6 k hk).2.2.1 (hGl k hk2)
                obtain ⟨r1, r2⟩ := RS.writeN (s0 := s) (w' := w.setRow b (vs.toList.take (n.toNat * sz.2 + off) ++ (a.eval y).cells.toList ++ vs.toList.drop (n.toNat * sz.2 + off + (a.eval y).cells.toList.length)).toArray) (ob' := .orows sz (xs.set n.toNat (.agg cs'))) (N := fun k => k ∈ A ++ (A1 ++ (F ++ B1)) ++ B) np f1 f2 hr hb
                  rfl rfl rfl (by simp) (fun k hk => setRow_other _ _ _ _ hk) (by
                    simp only [blkSize, setRow_heap w b vs _ sz.1 (0, 0) hheap, hheap]
                    simp; omega) (fun z ys e => by cases e; exact ⟨_, rfl, by simp⟩) (fun k hk => by
                    rcases hk with hk | ⟨_, hk⟩
                    · rw [updN_self] at hk; exact .inl (.inl (hb.trans hk))
                    · rw [updN_nest] at hk
                      by_cases hkF : k ∈ F
                      · obtain ⟨p1, p2, p3, p4⟩ := f6 k hkF
                        exact .inr ⟨p1, p3, p4, p2⟩
                      · refine .inl (.inr ⟨rfl, (g5 k).2 ?_⟩)
                        simp only [List.mem_append] at hk ⊢
                        rcases hk with (hk | (hk | (hk | hk))) | hk
                        · exact .inl (.inl hk)
                        · exact .inl (.inr (.inl hk))
                        · exact (hkF hk).elim
                        · exact .inl (.inr (.inr (.inr hk)))
                        · exact .inr hk) (fun hsame hz => by
                    have hother : ∀ k, k ≠ b → (w.setRow b (vs.toList.take (n.toNat * sz.2 + off) ++ (a.eval y).cells.toList ++ vs.toList.drop (n.toNat * sz.2 + off + (a.eval y).cells.toList.length)).toArray).heap[k]? = w.heap[k]? := fun k hk => setRow_other _ _ _ _ hk
                    have hnb : ∀ k, k ∈ A ++ (A1 ++ (M ++ B1)) ++ B → k ≠ b := fun k hk e => hnd.1 (e ▸ hk)
                    have hnbF : ∀ k, k ∈ F → k ≠ b := fun k hk e => hFG k hk (by rw [e]; simp)
                    simp only [RO]
                    refine ⟨fun e => (by rw [updN_self] at e; cases e), fun b2 hb2 => ?_⟩
                    rw [updN_self] at hb2
                    injection hb2 with hb2
                    subst hb2
                    refine ⟨_, A ++ (A1 ++ (F ++ B1)) ++ B, setRow_heap w b vs _ sz.1 (0, 0) hheap, by simp; omega, ?_, ?_, fun k => by rw [updN_nest]⟩
                    · refine OEs_put k3 (OEs_values (OEs_mono hz _ _ _ _ (fun k hk => hother k (hnb k (by simp [hk]))) a1) fun j hj => w1 j ?_) ?_ ?_ ?_
                      · rw [List.length_take] at hj
                        exact Nat.lt_of_lt_of_le hj (Nat.mul_le_mul_right _ (by omega))
                      · rw [w2]
                        simp only [OE]
                        rw [show cs' = cs.take off ++ (ds ++ cs.drop (off + ds.length)) by rw [hl2, List.append_assoc]]
                        exact OCs_append.2 ⟨v1, _, A1, F ++ B1, rfl, rfl, by rw [q1], OCs_mono hz _ _ _ (fun k hk => hother k (hnb k (by simp [hk]))) q2,
                          OCs_append.2 ⟨_, v3, F, B1, rfl, rfl, hus, OCs_mono hz _ _ _ (fun k hk => hother k (hnbF k hk)) f4, OCs_mono hz _ _ _ (fun k hk => hother k (hnb k (by simp [hk]))) q6⟩⟩
                      · rw [Nat.succ_mul, w3]
                        exact OEs_mono hz _ _ _ _ (fun k hk => hother k (hnb k (by simp [hk]))) a3
                      · rw [Nat.succ_mul]
                        simp at hbound ⊢
                        omega
                    · -- none twice
                      have hd : ∀ k, k ∈ F → k ∉ A ∧ k ∉ A1 ∧ k ∉ B1 ∧ k ∉ B ∧ k ≠ b := fun k hk => by
                        have := hFG k hk
                        simp only [List.mem_cons, List.mem_append, not_or] at this
                        exact ⟨this.2.1.1, this.2.1.2.1, this.2.1.2.2.2, this.2.2, this.1⟩
                      have g4' := g4
                      simp only [List.nodup_cons, List.nodup_append, List.mem_append, not_or] at g4' ⊢
                      obtain ⟨⟨⟨n1, n2, n3, n4⟩, n5⟩, ⟨⟨n6, ⟨n7, ⟨n8, n9, n10⟩, n11⟩, n12⟩, n13, n14⟩⟩ := g4'
                      refine ⟨⟨⟨n1, n2, fun hk => (hd b hk).2.2.2.2 rfl, n4⟩, n5⟩, ⟨n6, ⟨n7, ⟨f5, n9, fun x hx y hy e => (hd x hx).2.2.1 (e ▸ hy)⟩, fun x hx y hy => ?_⟩, fun x hx y hy => ?_⟩, n13, fun x hx y hy => ?_⟩
                      · rcases hy with hy | hy
                        · exact fun e => (hd y hy).2.1 (e ▸ hx)
                        · exact n11 x hx y (.inr hy)
                      · rcases hy with hy | hy | hy
                        · exact n12 x hx y (.inl hy)
                        · exact fun e => (hd y hy).1 (e ▸ hx)
                        · exact n12 x hx y (.inr (.inr hy))
                      · rcases hx with hx | hx | hx | hx
                        · exact n14 x (.inl hx) y hy
                        · exact n14 x (.inr (.inl hx)) y hy
                        · exact fun e => (hd x hx).2.2.2.1 (e ▸ hy)
                        · exact n14 x (.inr (.inr (.inr hx))) y hy)
                exact Goes.skip (hrun hpp hst) r1 r2
    case h_2 =>
    split at es
    case h_2 => cases es
    case h_1 vs2 s2 hfz =>
      split at es
      case h_2 => cases es
      case h_1 ds hds =>
        split at es
        case h_2 => cases es
        case h_1 sz' xs hr =>
          split at es
          case isFalse => cases es
          case isTrue hsz' =>
            split at es
            case h_2 => cases es
            case h_1 e he =>
              split at es
              case isFalse => cases es
              case isTrue hel =>
                split at es
                case h_2 => cases es
                case h_1 cs' hlay =>
                  split at es
                  case h_2 => cases es
                  case h_1 e' he' =>
                    injection es with es; subst es; subst hsz'
                    obtain ⟨Z', f1, f2, f3, f4⟩ := fzL_sound np v.cells _ s s2 vs2 Z h (Kept.refl _ _ _ _) hcells hfz
                    have hds' : RDs w Z' ds (a.eval y).cells.toList := dL_RDs hds (f4 (by rw [dL_refs hds]; simp))
                    have hp2 : RV (cxOf w Z' L s2.sto) (.prow r sz n off) (a.eval x) := f3.rv (by intro q hq; simp [AV.refs] at hq; subst hq; simp [hr]) hp
                    simp only [RV] at hp2
                    obtain ⟨b, _, hb, hn0, hpp⟩ := hp2
                    have hro := f1.obj r _ hr
                    simp only [RO] at hro
                    obtain ⟨vs, hheap, hcap, hrows⟩ := hro.2 b hb
                    obtain ⟨k1, k2, k3⟩ := elt_some he
                    obtain ⟨cs, m1, m2, m3⟩ := Rows_iff.1 hrows _ _ k2
                    have hdlen := (RDs_iff.1 hds').1
                    obtain ⟨hl1, hl2⟩ := lay_some hlay
                    have hmul : n.toNat * sz.2 + sz.2 ≤ xs.length * sz.2 := by rw [← Nat.succ_mul]; exact Nat.mul_le_mul_right _ k3
                    have hbound : n.toNat * sz.2 + off + (a.eval y).cells.size ≤ vs.size := by simp at hdlen; omega
                    have hst := run_storeVar (P := P) hi hsz hheap hbound hone'
                    have hxs : (xs.set n.toNat e').length = xs.length := by simp
                    have he'len : e'.cells.length = sz.2 ∧ RDs w Z' e'.cells (cs.take off ++ (a.eval y).cells.toList ++ cs.drop (off + (a.eval y).cells.toList.length)) := by
                      have q1 : RDs w Z' cs' (cs.take off ++ (a.eval y).cells.toList ++ cs.drop (off + (a.eval y).cells.toList.length)) := by
                        obtain ⟨q2, q3⟩ := RDs_iff.1 (RD_cells m2)
                        obtain ⟨q4, q5⟩ := RDs_iff.1 hds'
                        have e2 : lay cs off (a.eval y).cells.toList = some (cs.take off ++ (a.eval y).cells.toList ++ cs.drop (off + (a.eval y).cells.toList.length)) := by unfold lay; rw [if_pos (by omega)]
                        refine RDs_iff.2 ⟨by rw [lay_len hlay, lay_len e2]; omega, fun j d u hd hu => ?_⟩
                        rw [lay_getElem? hlay] at hd
                        rw [lay_getElem? e2] at hu
                        by_cases hcc : off ≤ j ∧ j < off + ds.length
                        · rw [if_pos hcc] at hd
                          rw [if_pos (by omega)] at hu
                          exact q5 _ d u hd hu
                        · rw [if_neg hcc] at hd
                          rw [if_neg (by omega)] at hu
                          exact q3 _ d u hd hu
                      have q6 : e'.cells = cs' := by
                        exact D_ofCells he'
                      rw [q6]
                      exact ⟨by rw [lay_len hlay, hel], q1⟩
                    obtain ⟨g1, g2⟩ := f1.write (w' := w.setRow b (vs.toList.take (n.toNat * sz.2 + off) ++ (a.eval y).cells.toList ++ vs.toList.drop (n.toNat * sz.2 + off + (a.eval y).cells.toList.length)).toArray) (ob' := .rows sz (xs.set n.toNat e')) np hr hb
                      rfl rfl rfl (by simp) (fun k hk => setRow_other _ _ _ _ hk) (by
                        simp only [blkSize, setRow_heap w b vs _ sz.1 (0, 0) hheap, hheap]
                        simp; omega) (fun z ys e => by cases e; exact ⟨_, rfl, hxs⟩) (fun e => by cases e) (fun hsame hz => by
                        simp only [RO]
                        refine ⟨fun e => (by rw [hb] at e; cases e), fun b2 hb2 => ?_⟩
                        have : b = b2 := by have : some b = some b2 := hb.symm.trans hb2; injection this
                        subst this
                        refine ⟨_, setRow_heap w b vs _ sz.1 (0, 0) hheap, by simp; omega, ?_⟩
                        exact Rows_set hheap hrows hz k3 m1 m3 (by omega) (by omega) he'len.2)
                    exact Goes.skip (hrun (by rw [hpp]) hst) g1 (f2.trans g2)
  · cases es

end
end Go.Vi
