/- append. -/
import Derived.Test.YtdkaahhcejipjaaOVi9
set_option linter.unusedVariables false
set_option linter.unusedSimpArgs false
set_option linter.unnecessarySimpa false
set_option linter.unusedSectionVars false
namespace Go.Vi
open Go Go.RowKit
section
variable {P : Program} {call : FuncId → List AV → List (Option Obj) → Option CRes} {loop : Nat → St → Option (Out × St)}
variable {s : St} {a : Act} {w : World} {L : Loc} {Z : Nat → Prop}

theorem lay_sto {s s' : St} {t : Nat} {l : List (Option Obj)} (hl : s.lay t l = some s') : s.sto.lay t l = some s'.sto ∧ s'.env = s.env := by
  unfold St.lay at hl
  split at hl
  · rename_i sto e; injection hl with hl; subst hl; exact ⟨e, rfl⟩
  · cases hl

theorem layRow {np t : Nat} {s1 s' : St} {w' : World} {e sz b : Nat} {xs : List D} {cells : Array Value} {cs : List Value} (h : RS s1 a w L Z) (t0 : Tr np s.sto s1.sto w w L L Z Z) (hl : s1.lay t [some (.rows (e, sz) xs)] = some s') (ht : t < np)
    (hos : w'.os = w.os) (htp : w'.tape = w.tape) (hop : w'.output = w.output) (hsize : w.heap.size ≤ w'.heap.size)
    (hkeep : ∀ k, k < w.heap.size → k ≠ b → w'.heap[k]? = w.heap[k]?)
    (hnb : ¬ Z b ∧ ¬ Lives s1.sto L b ∧ (w.heap.size ≤ b ∨ Lives s.sto L b))
    (hheap : w'.heap[b]? = some (.cells cells e)) (hcat : Cat w Z sz xs cs) (hpre : ∀ (j : Nat) (v : Value), cs[j]? = some v → cells[j]? = some v) (hcap : xs.length * sz ≤ cells.size) :
    ∃ L', RS s' a w' L' Z ∧ Tr np s.sto s'.sto w w' L L' Z Z ∧ L' (t, 0) = some b ∧ s'.sto.get (t, 0) = some (.rows (e, sz) xs) ∧ blkSize w' b = cells.size := by
  have hlt : b < w'.heap.size := (Array.getElem?_eq_some_iff.1 hheap).1
  have hzle : ZLe w w' Z Z := fun k hk => ⟨hk, hkeep k (h.dis k hk).1 fun e => hnb.1 (e ▸ hk)⟩
  obtain ⟨h1, h2, _, _⟩ := RS.lay (s0 := s) (np := np) (nb := some b) (w' := w') h t0 hl ht hos htp hop hsize (fun k hk hne => hkeep k hk fun e => hne (by rw [e]))
    (fun k hk => by injection hk with hk; subst hk; exact ⟨hnb.1, hnb.2.1, hlt, hnb.2.2⟩) (by
      simp only [RO]
      refine ⟨fun k => by simp [upd, updN] at k, fun k hk => ?_⟩
      have : b = k := by simpa [upd, updN] using hk
      subst this
      refine ⟨cells, hheap, hcap, cat_Rows (Cat_mono hzle hcat) fun j v hj => ?_⟩
      simp only [World.cell?, hheap, Nat.zero_add]
      simpa using hpre j v hj)
  refine ⟨_, h1, h2, by simp [upd, updN], ?_, by simp [blkSize, hheap]⟩
  rw [lay_get (lay_sto hl).1]; simp

/-- An empty row without memory. -/
theorem layVirtual {np t : Nat} {s1 s' : St} {sz : Elt} (h : RS s1 a w L Z) (t0 : Tr np s.sto s1.sto w w L L Z Z) (hl : s1.lay t [some (.rows sz [])] = some s') (ht : t < np) :
    ∃ L', RS s' a w L' Z ∧ Tr np s.sto s'.sto w w L L' Z Z ∧ L' (t, 0) = none ∧ s'.sto.get (t, 0) = some (.rows sz []) ∧ (∀ q, (s1.sto.get q).isSome → Same (cxOf w Z L s1.sto) (cxOf w Z L' s'.sto) q) := by
  obtain ⟨h1, h2, _, h4⟩ := RS.lay (s0 := s) (np := np) (nb := none) (w' := w) h t0 hl ht rfl rfl rfl (Nat.le_refl _) (fun k hk hne => rfl) (fun k hk => by cases hk) (by
      simp only [RO]
      exact ⟨fun _ => trivial, fun k hk => by simp [upd, updN] at hk⟩)
  refine ⟨_, h1, h2, by simp [upd, updN], ?_, h4⟩
  rw [lay_get (lay_sto hl).1]; simp

theorem run_append_zero {t ty e : TypeId} {i : TypeInfo} (ht : P.underlying t = some (.slice e)) (hi : P.info? e = some i) {A A2 : Option Addr} {n cap c2 : Nat} (hn : n ≤ cap) :
    (Builtin.append_ #[t, t] ty #[.slice A n cap, .slice A2 0 c2]).run P w = .ok (.slice A n cap) w := by
  cases A <;> cases A2 <;> simp [Builtin.append_, run_underlying ht, sizeOf, typeInfo, hi, Builtin.lenOf, hn, Builtin.firstCells, loadCells, loadCellsFrom, storeCells]

/-- The elements of a slice with a known stride, as cells. -/
theorem source {s : Sto} {x : AV} {v : Value} {xs : List D} {sz : Nat} (hobj : ∀ r ob, s.get r = some ob → RO (cxOf w Z L s) r ob) (hv : RV (cxOf w Z L s) x v) (hc : content (real call loop) s x = some xs)
    (hall : xs.all (fun y => y.cells.length == sz) = true) (hne : xs ≠ []) : ∃ b o cap cs, v = .slice (some ⟨b, o, none⟩) xs.length cap ∧ Cat w Z sz xs cs ∧ ∀ j u, cs[j]? = some u → w.cell? ((⟨b, o, none⟩ : Addr).add j) = some u := by
  obtain ⟨A, cap, h1, h2, h3⟩ := content_sound hobj hv hc
  rcases h3 with h3 | ⟨b, o, z, h4, h5, _⟩
  · exact (hne h3).elim
  · have hz : z = sz := by
      cases xs with
      | nil => exact (hne rfl).elim
      | cons y l =>
        have h6 := h5
        simp only [Rows] at h6
        obtain ⟨⟨cs, k1, k2, _⟩, _⟩ := h6
        have := RD_len k2
        simp at hall
        omega
    subst hz
    obtain ⟨cs, k1, k2⟩ := Rows_cat h5
    exact ⟨b, o, cap, cs, by rw [h1, h4], k1, fun j u hj => by rw [add_plain]; exact k2 j u hj⟩

/-- The new block of an append that finds no room. -/
theorem goes_grow {np t : Nat} {s1 s' : St} {o : Oper} {ty e : TypeId} {i : TypeInfo} {z : Value} {A0 : Option Addr} {n cap0 cap2 : Nat} {xs ys : List D} {cs1 cs2 : List Value} {ad ad2 : Addr}
    (h : RS s1 a w L Z) (t0 : Tr np s.sto s1.sto w w L L Z Z) (hs0 : RS s a w L Z) (hl : s1.lay t [some (.rows (e, i.size) (xs ++ ys))] = some s') (ht : t < np)
    (hu : P.underlying ty = some (.slice e)) (hi : P.info? e = some i) (hz : i.zero = some z) (hzs : z.cells.size = i.size)
    (hrun : ∀ {m : Value} {w' : World}, (Builtin.append_ #[ty, ty] o.type #[.slice A0 n cap0, .slice (some ad2) ys.length cap2]).run P w = .ok m w' → (execOp a.eval o).run P w = .ok (.value m) w')
    (hn : n = xs.length) (hA : A0 = some ad ∨ (A0 = none ∧ n = 0 ∧ cap0 = 0)) (hc1 : Cat w Z i.size xs cs1) (hx : ∀ j u, cs1[j]? = some u → w.cell? (ad.add j) = some u)
    (hc2 : Cat w Z i.size ys cs2) (hy : ∀ j u, cs2[j]? = some u → w.cell? (ad2.add j) = some u) (hgt : cap0 < n + ys.length) (f3 : (n + ys.length) * i.bytes ≤ 140737488355328) (f4 : n + ys.length ≤ maxLen) :
    Goes P np o s a w L Z (.arr (t, 0) (e, i.size) none false) s' := by
  have f4' : n + ys.length ≤ 9223372036854775807 := by simpa [maxLen] using f4
  have hl1 := Cat_len hc1
  have hl2 := Cat_len hc2
  have hge := grownCap_ge w (n + ys.length) cap0 e
  have hcm := grownCap_le_maxLen w (n + ys.length) cap0 e f4
  have hr : (Builtin.append_ #[ty, ty] o.type #[.slice A0 n cap0, .slice (some ad2) ys.length cap2]).run P w = .ok (.slice (some ⟨w.heap.size, 0, none⟩) (n + ys.length) (grownCap w (n + ys.length) cap0 e))
      (w.drew.alloc (.cells (cs1.toArray ++ cs2.toArray ++ Builtin.zeroCells z.cells (grownCap w (n + ys.length) cap0 e - (n + ys.length))) e)) := by
    rcases hA with rfl | ⟨rfl, rfl, rfl⟩
    · exact run_append_grow (P := P) w ty o.type e i z hu hi hz ad n cap0 cs1 (by rw [hn]; exact hl1) hx ad2 ys.length cap2 cs2 hl2 hy hgt (by omega) (growslice_fits hgt f3)
    · have hx0 : xs = [] := List.eq_nil_of_length_eq_zero hn.symm
      subst hx0
      have hc0 : cs1 = [] := by simpa only [Cat] using hc1
      subst hc0
      have := run_append_nil (P := P) w ty o.type e i z hu hi hz ad2 ys.length cap2 cs2 hl2 hy (by omega) (by omega) (by rw [Nat.zero_add] at f3; omega)
      simpa using this
  have hsz : (cs1.toArray ++ cs2.toArray ++ Builtin.zeroCells z.cells (grownCap w (n + ys.length) cap0 e - (n + ys.length)) : Array Value).size = grownCap w (n + ys.length) cap0 e * i.size := by
    rw [Array.size_append, Array.size_append, List.size_toArray, List.size_toArray, size_zeroCells, hzs, hl1, hl2, ← hn, ← Nat.add_mul, ← Nat.add_mul]
    congr 1; omega
  obtain ⟨L', k1, k2, k3, k4, k5⟩ := layRow (s := s) (b := w.heap.size) (cells := cs1.toArray ++ cs2.toArray ++ Builtin.zeroCells z.cells (grownCap w (n + ys.length) cap0 e - (n + ys.length)))
    (w' := w.drew.alloc (.cells (cs1.toArray ++ cs2.toArray ++ Builtin.zeroCells z.cells (grownCap w (n + ys.length) cap0 e - (n + ys.length))) e)) h t0 hl ht rfl rfl rfl (by simp) (fun k hk _ => heap_alloc_old w.drew _ k hk)
    ⟨fun hz => by have := (h.dis _ hz).1; omega, fun hl => (by obtain ⟨q, ob, p1, p2⟩ := hl; have := h.has_lt p1 p2; omega), .inl (Nat.le_refl _)⟩ (heap_alloc_new w.drew _) (Cat_append hc1 hc2)
    (fun j v hj => by
      have h0 := (List.getElem?_eq_some_iff.1 hj).1
      rw [Array.getElem?_append_left (by simpa using h0)]
      simpa using hj) (by rw [hsz, List.length_append, ← hn]; exact Nat.mul_le_mul_right _ hge)
  refine Goes.value (hrun hr) k1 k2 ?_
  simp only [RV]
  refine ⟨_, n + ys.length, _, xs ++ ys, rfl, ⟨hge, hcm⟩, fun e => (by cases e), rw_of k4, fun _ => by rw [List.length_append, hn], fun _ _ e => (by cases e), fun e => (by rw [k3] at e; cases e), fun b' hb' => .inr ?_⟩
  have : w.heap.size = b' := by have : some w.heap.size = some b' := k3.symm.trans hb'; injection this
  subst this
  exact ⟨by simp [rngOff], by rw [k5, hsz]; simp [rngOff]⟩

theorem goes_append {np t : Nat} {s' : St} {o : Oper} {ty e : TypeId} {i : TypeInfo} {z : Value} {x y : Operand} {x' y' : VX} {A B r : AV} (h : RS s a w L Z)
    (ho : o.op = .call { callee := .builtin .append, args := #[x, y], argTypes := #[ty, ty] }) (hx : okX x x' = true) (hy : okX y y' = true)
    (hu : P.underlying ty = some (.slice e)) (hi : P.info? e = some i) (hz : i.zero = some z) (hzs : z.cells.size = i.size) (ht : t < np)
    (e1 : ev s.env x' = some A) (e2 : ev s.env y' = some B)
    (es : doOp (real call loop) s (some t) (.append (e, i.size) i.bytes x' y') = some (r, s')) : Goes P np o s a w L Z r s' := by
  have hA := ev_sound h hx e1
  have hB := ev_sound h hy e2
  have hrun : ∀ {m : Value} {w' : World}, (Builtin.append_ #[ty, ty] o.type #[a.eval x, a.eval y]).run P w = .ok m w' → (execOp a.eval o).run P w = .ok (.value m) w' := by
    intro m w' hm
    unfold execOp
    rw [ho]
    simp [resolve, invoke, builtin, hm]
  simp only [doOp, e1, e2] at es
  split at es
  · cases es
  rename_i ys hys
  obtain ⟨A2, cap2, b1, b2, b3⟩ := content_sound h.obj hB hys
  cases A with
  | emp =>
    simp only at es
    split at es
    case h_2 => cases es
    case h_1 hfit =>
      split at es
      case h_2 => cases es
      case h_1 s2 hl =>
        injection es with es; injection es with es1 es2; subst es1; subst es2
        simp only [RV] at hA
        obtain ⟨A0, hA⟩ := hA
        by_cases hy0 : ys = []
        · subst hy0
          obtain ⟨L', k1, k2, k3, k4, _⟩ := layVirtual (s := s) h (Tr.refl np _ _ _ _) hl ht
          refine Goes.value (hrun (m := .slice A0 0 0) (w' := w) (by rw [hA, b1]; exact run_append_zero hu hi (Nat.le_refl _))) k1 k2 ?_
          simp only [RV]
          exact ⟨A0, 0, 0, [], rfl, ⟨Nat.le_refl _, Nat.zero_le _⟩, fun _ => rfl, rw_of k4, fun _ => rfl, fun _ _ e => (by cases e), fun _ => rfl, fun b hb => by rw [k3] at hb; cases hb⟩
        · have hfit' := hfit
          simp only [real, Ora.fits, Bool.and_eq_true] at hfit'
          obtain ⟨f1, f2⟩ := hfit'
          obtain ⟨f3, f4⟩ := of_decide_eq_true f1
          obtain ⟨b, off, cap, cs, c1, c2, c3⟩ := source h.obj hB hys f2 hy0
          have hpos' : 0 < ys.length := List.length_pos_iff.2 hy0
          refine goes_grow (s := s) (A0 := A0) (n := 0) (cap0 := 0) (xs := []) (ys := ys) (cs1 := []) (cs2 := cs) (ad := A0.getD ⟨0, 0, none⟩) h (Tr.refl np _ _ _ _) h (by simpa using hl) ht hu hi hz hzs (fun hm => hrun (by rw [hA, c1]; exact hm)) rfl ?_ (by simp only [Cat]) (by simp) c2 c3 (by omega) (by rw [Nat.zero_add]; exact f3) (by rw [Nat.zero_add]; exact f4)
          cases A0 with
          | none => exact .inr ⟨rfl, rfl, rfl⟩
          | some ad => exact .inl rfl
  | arr q sz g u =>
    simp only at es
    split at es
    case h_2 => cases es
    case h_1 xs hxs =>
      split at es
      case isFalse => cases es
      case isTrue hc =>
        split at es
        case h_2 => cases es
        case h_1 hfit =>
          split at es
          case h_2 => cases es
          case h_1 s2 hl =>
            injection es with es; injection es with es1 es2; subst es1; subst es2
            simp only [Bool.and_eq_true, decide_eq_true_eq] at hc
            obtain ⟨hc1, hc2⟩ := hc
            subst hc1
            have hg0 : rngOff g = 0 := by
              cases g with
              | none => rfl
              | some p => obtain ⟨p1, p2⟩ := p; simp only [atHead, real, Ora.isZero] at hc2; have := of_decide_eq_true hc2; simp [rngOff, this]
            obtain ⟨A1, cap1, d1, d2, d3⟩ := content_sound h.obj hA hxs
            have hA' := hA
            simp only [RV] at hA'
            obtain ⟨a', n', cap', xs0, m1, ⟨m2, m2'⟩, _, m4, _, _, m7, m8⟩ := hA'
            rw [d1] at m1
            injection m1 with q1 q2 q3
            subst q1; subst q3
            have hk := h.kill q
            have hkt := Tr.kill np s w L Z q
            have m4 := content_rows hxs m4
            have hro := h.obj q _ m4
            simp only [RO] at hro
            have happ : (real call loop).app xs ys = xs ++ ys := rfl
            rw [happ] at hl hfit
            have hfit' := hfit
            simp only [real, Ora.fits, Bool.and_eq_true] at hfit'
            obtain ⟨f1, f2⟩ := hfit'
            obtain ⟨f3, f4⟩ := of_decide_eq_true f1
            rw [List.all_append, Bool.and_eq_true] at f2
            rw [List.length_append] at f3 f4
            have f4' : xs.length + ys.length ≤ 9223372036854775807 := by simpa [maxLen] using f4
            cases hL : L q with
            | none =>
              have hc0 := m7 hL
              subst hc0
              have hx0 : xs = [] := List.eq_nil_of_length_eq_zero (by omega)
              subst hx0
              by_cases hy0 : ys = []
              · subst hy0
                obtain ⟨L', k1, k2, k3, k4, _⟩ := layVirtual (s := s) hk hkt (by simpa using hl) ht
                refine Goes.value (hrun (m := .slice A1 0 0) (w' := w) (by rw [d1, b1]; exact run_append_zero hu hi (Nat.le_refl _))) k1 k2 ?_
                simp only [RV]
                exact ⟨A1, 0, 0, [], rfl, ⟨Nat.le_refl _, Nat.zero_le _⟩, fun _ => rfl, rw_of k4, fun _ => rfl, fun _ _ e => (by cases e), fun _ => rfl, fun b hb => by rw [k3] at hb; cases hb⟩
              · obtain ⟨b, off, cap, cs, c1, c2, c3⟩ := source h.obj hB hys f2.2 hy0
                have hpos' : 0 < ys.length := List.length_pos_iff.2 hy0
                refine goes_grow (s := s) (A0 := A1) (n := 0) (cap0 := 0) (xs := []) (ys := ys) (cs1 := []) (cs2 := cs) (ad := A1.getD ⟨0, 0, none⟩) hk hkt h hl ht hu hi hz hzs (fun hm => hrun (by rw [d1, c1]; exact hm)) rfl ?_ (by simp only [Cat]) (by simp) c2 c3 (by omega) (by simpa using f3) (by simpa using f4)
                cases A1 with
                | none => exact .inr ⟨rfl, rfl, rfl⟩
                | some ad => exact .inl rfl
            | some b =>
              rcases m8 b hL with ⟨_, z1⟩ | ⟨z1, z2⟩
              · exact (z1 hg0).elim
              rw [hg0] at z1 z2
              simp only [Nat.zero_mul, Nat.zero_add] at z1 z2
              subst z1
              obtain ⟨vs, p1, p2, p3⟩ := hro.2 b hL
              have hblk : blkSize w b = vs.size := by simp [blkSize, p1]
              have hnl : ¬ Lives (s.kill q).sto L b := not_lives_kill h m4 (.inl hL)
              have hnz : ¬ Z b := fun hz => (h.dis b hz).2 ⟨q, _, m4, .inl hL⟩
              have hlv : Lives s.sto L b := ⟨q, _, m4, .inl hL⟩
              obtain ⟨cs1, o1, o2⟩ : ∃ cs1, Cat w Z i.size xs cs1 ∧ ∀ j u, cs1[j]? = some u → w.cell? ⟨b, j, none⟩ = some u := by
                have hR : Rows w Z xs b 0 i.size := by
                  simp only [content, m4] at hxs
                  cases g with
                  | none => simp only at hxs; injection hxs with hxs; rw [← hxs]; exact p3
                  | some p =>
                    obtain ⟨x0, n0⟩ := p
                    simp only [real, Ora.sub, subI] at hxs
                    split at hxs
                    · injection hxs with hxs
                      rw [← hxs]
                      have : x0.toNat = 0 := by simpa [rngOff] using hg0
                      rw [this]
                      exact Rows_take _ (by simpa using p3)
                    · cases hxs
                obtain ⟨cs1, o1, o2⟩ := Rows_cat hR
                exact ⟨cs1, o1, fun j u hj => by have := o2 j u hj; rwa [Nat.zero_add] at this⟩
              have hlen1 := Cat_len o1
              have hcell : ∀ j, w.cell? ⟨b, j, none⟩ = vs[j]? := fun j => by simp [World.cell?, p1]
              by_cases hroom : xs.length + ys.length ≤ cap1
              · -- in place
                obtain ⟨ad2, cs2, c1, c2, c3⟩ : ∃ A cs2, a.eval y = .slice A ys.length cap2 ∧ Cat w Z i.size ys cs2 ∧ (∀ ad, A = some ad → ∀ j u, cs2[j]? = some u → w.cell? (ad.add j) = some u) := by
                  by_cases hy0 : ys = []
                  · subst hy0; exact ⟨A2, [], b1, by simp only [Cat], by simp⟩
                  · obtain ⟨b', off, cap, cs, c1, c2, c3⟩ := source h.obj hB hys f2.2 hy0
                    have : cap = cap2 := by rw [c1] at b1; injection b1
                    subst this
                    exact ⟨_, cs, c1, c2, fun ad e => by injection e with e; subst e; exact c3⟩
                have hlen2 := Cat_len c2
                have hfitc : xs.length * i.size + cs2.length ≤ vs.size := by rw [hlen2, ← Nat.add_mul, ← hblk, ← z2]; exact Nat.mul_le_mul_right _ hroom
                have hr : (Builtin.append_ #[ty, ty] o.type #[.slice (some ⟨b, 0, none⟩) xs.length cap1, .slice ad2 ys.length cap2]).run P w = .ok (.slice (some ⟨b, 0, none⟩) (xs.length + ys.length) cap1)
                    (w.setRow b (vs.toList.take (xs.length * i.size) ++ cs2 ++ vs.toList.drop (xs.length * i.size + cs2.length)).toArray) := by
                  cases ad2 with
                  | none =>
                    have hy0 : ys = [] := by
                      rcases b3 with b3 | ⟨_, _, _, b4, _⟩
                      · exact b3
                      · rw [c1] at b1; injection b1 with b1; rw [← b1] at b4; cases b4
                    subst hy0
                    have : cs2 = [] := by simpa only [Cat] using c2
                    subst this
                    have := run_append_zero (P := P) (w := w) (ty := o.type) hu hi (A := some ⟨b, 0, none⟩) (A2 := none) (n := xs.length) (cap := cap1) (c2 := cap2) d2
                    simp only [List.length_nil, Nat.add_zero, List.append_nil, List.take_append_drop] at this ⊢
                    rw [this]
                    congr 1
                    exact (setRow_self w b vs e (0, 0) p1).symm
                  | some ad => exact run_append_room (P := P) w ty o.type e i hu hi b xs.length cap1 vs p1 ad ys.length cap2 cs2 hlen2 (c3 ad rfl) (Cat_one c2) hroom hfitc
                have elay : lay vs.toList (xs.length * i.size) cs2 = some (vs.toList.take (xs.length * i.size) ++ cs2 ++ vs.toList.drop (xs.length * i.size + cs2.length)) := by unfold lay; rw [if_pos (by simpa using hfitc)]
                obtain ⟨L', k1, k2, k3, k4, k5⟩ := layRow (s := s) (b := b) (cells := (vs.toList.take (xs.length * i.size) ++ cs2 ++ vs.toList.drop (xs.length * i.size + cs2.length)).toArray)
                  (w' := w.setRow b (vs.toList.take (xs.length * i.size) ++ cs2 ++ vs.toList.drop (xs.length * i.size + cs2.length)).toArray) hk hkt hl ht rfl rfl rfl (by simp) (fun k _ hk => setRow_other _ _ _ _ hk)
                  ⟨hnz, hnl, .inr hlv⟩ (setRow_heap w b vs _ e (0, 0) p1) (Cat_append o1 c2)
                  (fun j v hj => by
                    simp only [List.getElem?_toArray]
                    rw [lay_getElem? elay]
                    rw [List.getElem?_append] at hj
                    split at hj
                    · rename_i hlt
                      rw [if_neg (by omega)]
                      have := o2 j v hj
                      rw [hcell] at this
                      simpa using this
                    · rename_i hlt
                      have := (List.getElem?_eq_some_iff.1 hj).1
                      rw [if_pos (by omega), ← hlen1]
                      exact hj) (by
                    have := lay_len elay
                    simp only [List.size_toArray, this, Array.length_toList, List.length_append, Nat.add_mul]
                    omega)
                refine Goes.value (hrun (by rw [d1, c1]; exact hr)) k1 k2 ?_
                simp only [RV]
                refine ⟨_, xs.length + ys.length, cap1, xs ++ ys, rfl, ⟨hroom, m2'⟩, fun e => (by cases e), rw_of k4, fun _ => by rw [List.length_append], fun _ _ e => (by cases e), fun e => (by rw [k3] at e; cases e), fun b' hb' => .inr ?_⟩
                have : b = b' := by have : some b = some b' := k3.symm.trans hb'; injection this
                subst this
                refine ⟨by simp [rngOff], ?_⟩
                rw [k5]
                have := lay_len elay
                simp only [List.size_toArray, this, Array.length_toList, rngOff, Nat.zero_add]
                rw [z2, hblk]
              · have hy0 : ys ≠ [] := by rintro rfl; exact hroom (by simpa using d2)
                obtain ⟨b', off, cap, cs, c1, c2, c3⟩ := source h.obj hB hys f2.2 hy0
                exact goes_grow (s := s) (A0 := some ⟨b, 0, none⟩) (n := xs.length) (cap0 := cap1) (xs := xs) (ys := ys) (cs1 := cs1) (cs2 := cs) (ad := ⟨b, 0, none⟩) hk hkt h hl ht hu hi hz hzs (fun hm => hrun (by rw [d1, c1]; exact hm)) rfl (.inl rfl) o1 (fun j u hj => by rw [add_plain, Nat.zero_add]; exact o2 j u hj) c2 c3 (by omega) f3 f4
  | _ => simp at es

end
end Go.Vi
