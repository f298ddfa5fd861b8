/- Rows that own: literals, append. -/
import Derived.Test.YtdkaahhcejipjaaOVi12
set_option linter.unusedVariables false
set_option linter.unusedSimpArgs false
set_option linter.unnecessarySimpa false
set_option linter.unusedSectionVars false
namespace Go.Vi
open Go Go.RowKit
section
variable {P : Program} {call : FuncId → List AV → List (Option Obj) → Option CRes} {loop : Nat → St → Option (Out × St)}
variable {s : St} {a : Act} {w : World} {L : Loc} {Z : Nat → Prop}

theorem OEs_Cat {n : Nat} : ∀ {xs : List D} {vs : List Value} {F : List Nat}, OEs w Z n xs vs F → Cat w Z n xs (vs.take (xs.length * n))
  | [], vs, F, _ => by simp only [List.length_nil, Nat.zero_mul, List.take_zero, Cat]
  | x :: xs, vs, F, h => by
    simp only [OEs] at h
    obtain ⟨F1, F2, h1, _, h2, h3⟩ := h
    have ih := OEs_Cat h3
    simp only [Cat]
    refine ⟨vs.take n, (vs.drop n).take (xs.length * n), ?_, by simp [h1], OE_RD x _ F1 h2, ih⟩
    rw [List.length_cons, Nat.succ_mul, Nat.add_comm, List.take_add]

/-- An object that owns is laid: in a block that is new, or nobody's. -/
theorem layORow {np t : Nat} {s1 s' : St} {w' : World} {e sz b : Nat} {xs : List D} {cells : Array Value} {F : List Nat} (h : RS s1 a w L Z) (t0 : Tr np s.sto s1.sto w w L L Z Z) (hl : s1.lay t [some (.orows (e, sz) xs)] = some s') (ht : t < np)
    (hos : w'.os = w.os) (htp : w'.tape = w.tape) (hop : w'.output = w.output) (hsize : w.heap.size ≤ w'.heap.size) (hkeep : ∀ k, k < w.heap.size → k ≠ b → w'.heap[k]? = w.heap[k]?)
    (hnb : ¬ Z b ∧ ¬ Lives s1.sto L b ∧ (w.heap.size ≤ b ∨ Lives s.sto L b))
    (hheap : w'.heap[b]? = some (.cells cells e)) (hoe : OEs w' Z sz xs cells.toList F) (hF : (b :: F).Nodup) (hFf : ∀ k ∈ F, ¬ Z k ∧ Lives s.sto L k ∧ ¬ Lives s1.sto L k ∧ k < w.heap.size) (hcap : xs.length * sz ≤ cells.size) :
    ∃ L', RS s' a w' L' Z ∧ Tr np s.sto s'.sto w w' L L' Z Z ∧ L' (t, 0) = some b ∧ s'.sto.get (t, 0) = some (.orows (e, sz) xs) ∧ blkSize w' b = cells.size := by
  have hlt : b < w'.heap.size := (Array.getElem?_eq_some_iff.1 hheap).1
  obtain ⟨h1, h2, _, _⟩ := RS.layN (s0 := s) (np := np) (nb := some b) (w' := w') (N := fun k => k ∈ F) h t0 hl ht hos htp hop hsize (fun k hk hne => hkeep k hk fun e => hne (by rw [e]))
    (fun k hk => by injection hk with hk; subst hk; exact ⟨hnb.1, hnb.2.1, hlt, hnb.2.2⟩) (fun k _ hk => by
      obtain ⟨p1, p2, p3, p4⟩ := hFf k hk
      exact ⟨p1, p3, Nat.lt_of_lt_of_le p4 hsize, .inr p2⟩) (by
      simp only [RO]
      refine ⟨fun k => (by rw [updN_self] at k; cases k), fun k hk => ?_⟩
      rw [updN_self] at hk
      injection hk with hk
      subst hk
      exact ⟨cells, F, hheap, hcap, hoe, hF, fun k => by rw [updN_nest]⟩)
  refine ⟨_, h1, h2, updN_self _ _ _ _, ?_, by simp [blkSize, hheap]⟩
  rw [lay_get (lay_sto hl).1]; simp

theorem goes_buildO {np t : Nat} {s' : St} {o : Oper} {ty e : TypeId} {i : TypeInfo} {z : Value} {x : Operand} {x' : VX} {r : AV}
    (h : RS s a w L Z) (ho : o.op = .buildSlice ty 1 #[(0, x)]) (hx : okX x x' = true) (hu : P.underlying ty = some (.slice e)) (hi : P.info? e = some i) (hz : i.zero = some z) (hzs : z.cells.size = i.size) (hpos : 0 < i.size)
    (hbig : i.size ≤ 2 ^ 24) (ht : t < np)
    (es : doOp (real call loop) s (some t) (.buildO (e, i.size) x') = some (r, s')) : Goes P np o s a w L Z r s' := by
  simp only [doOp] at es
  split at es
  case h_2 => cases es
  case h_1 cs t' hev ht' =>
    injection ht' with ht'; subst ht'
    split at es
    case h_2 => cases es
    case h_1 ds s2 hown =>
      split at es
      case isFalse => cases es
      case isTrue hlen =>
        split at es
        case h_2 => cases es
        case h_1 s3 hl =>
          injection es with es; injection es with es1 es2; subst es1; subst es2
          have hv := ev_sound h hx hev
          simp only [RV] at hv
          obtain ⟨vs, hv, hcs⟩ := hv
          obtain ⟨f1, f2, f3, F, f4, f5, f6⟩ := ownL_sound np cs vs s s2 ds h (Kept.refl _ _ _ _) hcs hown
          have hvl := OCs_len f4
          have hsz : (a.eval x).cells.size = i.size := by rw [hv]; simp [Value.cells]; omega
          have hrun : (execOp a.eval o).run P w = .ok (.value (.slice (some ⟨w.heap.size, 0, none⟩) 1 1)) { w with heap := w.heap.push (.cells vs.toArray e) } := by
            refine run_v (m := Instr.buildSlice ty 1 #[(0, a.eval x)]) (by unfold execOp; rw [ho]; simp) ?_
            unfold Instr.buildSlice
            have h0 : ¬ (i.size = 0) := by omega
            have hn : ¬ (16777216 < i.size) := by omega
            simp only [Sem.run_bind, run_underlying hu, Result.andThen, sizeOf, typeInfo, Sem.run_pure]
            have hfill : Instr.fill (fun k => some (k * i.size, i.size)) ((Array.range (1 * i.size)).map (fun j => z.cells[j % z.cells.size]!)) [(0, a.eval x)] = some vs.toArray := by
              rw [fill_step (off := 0) (by rw [hsz]; simp) (by simp; omega)]
              simp only [Instr.fill, Option.some.injEq]
              apply Array.ext'
              rw [hv]
              simp [Value.cells]
              have : vs.length = i.size := by omega
              rw [this]
              simp
            simp [hi, h0, hn, newRow, zeroValue, typeInfo, hz] at hfill ⊢
            simp [hfill]
          have hlt : ∀ k ∈ F, k ≠ w.heap.size := fun k hk e => by have := (f6 k hk).2.2.2; omega
          have hzle : ZLe w { w with heap := w.heap.push (.cells vs.toArray e) } Z Z := fun b hb => ⟨hb, by
            have := (f1.dis b hb).1
            show (w.heap.push _)[b]? = _
            rw [Array.getElem?_push, if_neg (by omega)]⟩
          obtain ⟨L', k1, k2, k3, k4, k5⟩ := layORow (s := s) (np := np) (b := w.heap.size) (cells := vs.toArray) (F := F) (w' := { w with heap := w.heap.push (.cells vs.toArray e) }) f1 f2 hl ht rfl rfl rfl (by simp) (fun k hk _ => by
              show (w.heap.push _)[k]? = _
              rw [Array.getElem?_push, if_neg (by omega)])
            ⟨fun hz => by have := (f1.dis _ hz).1; omega, fun hl => (by obtain ⟨q, ob, p1, p2⟩ := hl; have := f1.has_lt p1 p2; omega), .inl (Nat.le_refl _)⟩ (by simp)
            (OEs_one.2 ⟨by simp; omega, by
              simp only [OE]
              have htk : vs.take i.size = vs := List.take_of_length_le (by omega)
              rw [htk]
              exact OCs_mono hzle _ _ _ (fun k hk => by
                show (w.heap.push _)[k]? = _
                have := (f6 k hk).2.2.2
                rw [Array.getElem?_push, if_neg (by omega)]) f4⟩)
            (List.nodup_cons.2 ⟨fun hk => hlt _ hk rfl, f5⟩) (fun k hk => f6 k hk) (by simp only [List.length_singleton, Nat.one_mul, List.size_toArray]; omega)
          refine Goes.value hrun k1 k2 ?_
          simp only [RV]
          refine ⟨_, 1, 1, [.agg ds], rfl, ⟨Nat.le_refl _, by unfold maxLen; omega⟩, fun _ => rfl, by show (s3.sto.get (t, 0)).bind Obj.rw = _; rw [k4]; rfl, fun _ => rfl, fun x m e => (by cases e), fun e => (by rw [k3] at e; cases e), fun b hb => ?_⟩
          have : w.heap.size = b := by have : some w.heap.size = some b := k3.symm.trans hb; injection this
          subst this
          right
          refine ⟨by simp [rngOff], ?_⟩
          rw [k5]; simp [rngOff]; omega

/-- What is handed over to be owned, as a slice. -/
theorem ownR_sound {Z0 : Nat → Prop} {s00 : Sto} (np : Nat) {sz : Elt} {x : AV} {v : Value} {s s' : St} {xs : List D} (h : RS s a w L Z) (hk : Kept w L Z0 Z s00 s.sto) (hv : RV (cxOf w Z0 L s00) x v)
    (e : ownR (real call loop) s sz x = some (xs, s')) : RS s' a w L Z ∧ Tr np s.sto s'.sto w w L L Z Z ∧ Kept w L Z Z s.sto s'.sto ∧ ∃ A c F, v = .slice A xs.length c ∧ Free w L Z s.sto s'.sto F ∧
      ((c = 0 ∧ xs = [] ∧ F = []) ∨ ∃ b vs F', A = some ⟨b, 0, none⟩ ∧ F = b :: F' ∧ w.heap[b]? = some (.cells vs sz.1 (0, 0)) ∧ c * sz.2 = vs.size ∧ xs.length * sz.2 ≤ vs.size ∧ OEs w Z sz.2 xs vs.toList F') := by
  cases x with
  | emp =>
    simp only [ownR] at e
    injection e with e; injection e with e1 e2; subst e1; subst e2
    simp only [RV] at hv
    obtain ⟨A, hv⟩ := hv
    exact ⟨h, Tr.refl _ _ _ _ _, Kept.refl _ _ _ _, A, 0, [], hv, by simp [Free], .inl ⟨rfl, rfl, rfl⟩⟩
  | arr r sz' g u =>
    simp only [ownR] at e
    split at e
    · rename_i sz1 ys s2 ho
      split at e
      case isFalse => cases e
      case isTrue hs =>
        injection e with e; injection e with e1 e2; subst e1; subst e2; subst hs
        obtain ⟨k1, k2, k3, F, k4, k5⟩ := ownA_sound np _ _ _ _ _ h hk hv ho
        simp only [OC] at k4
        obtain ⟨A, c, m1, m2⟩ := k4
        refine ⟨k1, k2, k3, A, c, F, m1.1, k5, m2.imp id ?_⟩
        rintro ⟨b, vs, F', p1, p2, p3, p4, _, p6, p7⟩
        exact ⟨b, vs, F', p1, p2, p3, p4, p6, p7⟩
    · cases e
  | _ => simp [ownR] at e

theorem goes_appendO {np t : Nat} {s' : St} {o : Oper} {ty e : TypeId} {i : TypeInfo} {z : Value} {x y : Operand} {x' y' : VX} {r : AV} (h : RS s a w L Z)
    (ho : o.op = .call { callee := .builtin .append, args := #[x, y], argTypes := #[ty, ty] }) (hx : okX x x' = true) (hy : okX y y' = true)
    (hu : P.underlying ty = some (.slice e)) (hi : P.info? e = some i) (hz : i.zero = some z) (hzs : z.cells.size = i.size) (ht : t < np)
    (es : doOp (real call loop) s (some t) (.appendO (e, i.size) i.bytes x' y') = some (r, s')) : Goes P np o s a w L Z r s' := by
  have hrun : ∀ {m : Value} {w' : World}, (Builtin.append_ #[ty, ty] o.type #[a.eval x, a.eval y]).run P w = .ok m w' → (execOp a.eval o).run P w = .ok (.value m) w' := by
    intro m w' hm
    unfold execOp
    rw [ho]
    simp [resolve, invoke, builtin, hm]
  simp only [doOp] at es
  split at es
  case h_2 => cases es
  case h_1 A0 B0 t' e1 e2 ht' =>
    injection ht' with ht'; subst ht'
    have hA := ev_sound h hx e1
    have hB := ev_sound h hy e2
    split at es
    case h_2 => cases es
    case h_1 xs s1 hr1 =>
      split at es
      case h_2 => cases es
      case h_1 sz2 y0 ys0 s2 hr2 =>
        split at es
        case isFalse => cases es
        case isTrue hsz2 =>
          subst hsz2
          split at es
          case h_2 => cases es
          case h_1 hfit =>
            split at es
            case h_2 => cases es
            case h_1 s3 hl =>
              injection es with es; injection es with es1 es2; subst es1; subst es2
              obtain ⟨f1, f2, f3, VA, c1, F1, hva, ⟨fn, ff⟩, hcase⟩ := ownR_sound np h (Kept.refl _ _ _ _) hA hr1
              obtain ⟨g1, g2, g3, F2, g4, gn, gf⟩ := ownA_sound np _ _ _ _ _ f1 f3 hB hr2
              simp only [OC] at g4
              obtain ⟨VB, c2, ⟨hvb, _⟩, g4⟩ := g4
              rcases g4 with ⟨_, q, _⟩ | ⟨b2, vs2, F2', e3, e4, e5, e6, e7, e8, e9⟩
              · cases q
              generalize hys : y0 :: ys0 = ys at *
              have hpos : 0 < ys.length := by rw [← hys]; simp
              subst e4
              have happ : (real call loop).app xs ys = xs ++ ys := rfl
              rw [happ] at hl hfit
              simp only [real, Ora.fits, Bool.and_eq_true] at hfit
              obtain ⟨hf1, _⟩ := hfit
              obtain ⟨hf3, hf4⟩ := of_decide_eq_true hf1
              rw [List.length_append] at hf3 hf4
              have hf4' : xs.length + ys.length ≤ 9223372036854775807 := by simpa [maxLen] using hf4
              -- the blocks that come
              have back1 : ∀ k, Lives s1.sto L k → Lives s.sto L k := fun k hl => by
                rcases f2.lives k hl with m | m
                · exact m
                · obtain ⟨q, ob, p1, p2⟩ := hl; have := f1.has_lt p1 p2; omega
              have back2 : ∀ k, Lives s2.sto L k → Lives s1.sto L k := fun k hl => by
                rcases g2.lives k hl with m | m
                · exact m
                · obtain ⟨q, ob, p1, p2⟩ := hl; have := g1.has_lt p1 p2; omega
              have free1 : ∀ k ∈ F1, ¬ Z k ∧ Lives s.sto L k ∧ ¬ Lives s2.sto L k ∧ k < w.heap.size := fun k hk => by
                obtain ⟨p1, p2, p3, p4⟩ := ff k hk
                exact ⟨p1, p2, fun hl => p3 (back2 k hl), p4⟩
              have free2 : ∀ k ∈ b2 :: F2', ¬ Z k ∧ Lives s.sto L k ∧ ¬ Lives s2.sto L k ∧ k < w.heap.size := fun k hk => by
                obtain ⟨p1, p2, p3, p4⟩ := gf k hk
                exact ⟨p1, back1 k p2, p3, p4⟩
              have hdisj : ∀ k, k ∈ F1 → k ∈ b2 :: F2' → False := fun k hk hk2 => (ff k hk).2.2.1 (gf k hk2).2.1
              have hcat2 := OEs_Cat e9
              have hlen2 := Cat_len hcat2
              have hcell2 : ∀ j u, (vs2.toList.take (ys.length * i.size))[j]? = some u → w.cell? ((⟨b2, 0, none⟩ : Addr).add j) = some u := fun j u hj => by
                rw [List.getElem?_take] at hj
                split at hj
                · rw [add_plain]; simp only [World.cell?, e5, Nat.zero_add]; simpa using hj
                · cases hj
              by_cases hroom : xs.length + ys.length ≤ c1
              · -- in place
                rcases hcase with ⟨q, _, _⟩ | ⟨b1, vs1, F1', d1, rfl, d3, d4, d5, d6⟩
                · omega
                have hfitc : xs.length * i.size + (vs2.toList.take (ys.length * i.size)).length ≤ vs1.size := by
                  rw [hlen2, ← Nat.add_mul, ← d4]; exact Nat.mul_le_mul_right _ hroom
                have hr := run_append_room (P := P) w ty o.type e i hu hi b1 xs.length c1 vs1 d3 ⟨b2, 0, none⟩ ys.length c2 (vs2.toList.take (ys.length * i.size)) hlen2 hcell2 (Cat_one hcat2) hroom hfitc
                have elay : lay vs1.toList (xs.length * i.size) (vs2.toList.take (ys.length * i.size)) = some (vs1.toList.take (xs.length * i.size) ++ vs2.toList.take (ys.length * i.size) ++ vs1.toList.drop (xs.length * i.size + (vs2.toList.take (ys.length * i.size)).length)) := by unfold lay; rw [if_pos (by simpa using hfitc)]
                generalize hcells : (vs1.toList.take (xs.length * i.size) ++ vs2.toList.take (ys.length * i.size) ++ vs1.toList.drop (xs.length * i.size + (vs2.toList.take (ys.length * i.size)).length)) = cells at *
                have hne1 : ∀ k ∈ F1', k ≠ b1 := fun k hk e => (List.nodup_cons.1 fn).1 (e ▸ hk)
                have hne2 : ∀ k ∈ F2', k ≠ b1 := fun k hk e => hdisj b1 (by simp) (by rw [← e]; simp [hk])
                have hother : ∀ k, k ≠ b1 → (w.setRow b1 cells.toArray).heap[k]? = w.heap[k]? := fun k hk => setRow_other _ _ _ _ hk
                have hzle : ZLe w (w.setRow b1 cells.toArray) Z Z := fun k hk => ⟨hk, hother k fun e => (free1 b1 (by simp)).1 (e ▸ hk)⟩
                obtain ⟨L', k1, k2, k3, k4, k5⟩ := layORow (s := s) (np := np) (b := b1) (cells := cells.toArray) (F := F1' ++ F2') (w' := w.setRow b1 cells.toArray) g1 (f2.trans g2) hl ht rfl rfl rfl (by simp) (fun k _ hk => hother k hk)
                  ⟨(free1 b1 (by simp)).1, (free1 b1 (by simp)).2.2.1, .inr (free1 b1 (by simp)).2.1⟩ (setRow_heap w b1 vs1 _ e (0, 0) d3)
                  (OEs_append.2 ⟨F1', F2', rfl, OEs_values (OEs_mono hzle _ _ _ _ (fun k hk => hother k (hne1 k hk)) d6) (fun j hj => by
                      rw [lay_getElem? elay, if_neg (by omega)]),
                    OEs_values (OEs_mono hzle _ _ _ _ (fun k hk => hother k (hne2 k hk)) e9) (fun j hj => by
                      rw [List.getElem?_drop, lay_getElem? elay, if_pos ⟨by omega, by rw [hlen2]; omega⟩, List.getElem?_take, if_pos (by omega)]
                      congr 1
                      omega)⟩)
                  (by
                    rw [List.nodup_cons]
                    refine ⟨fun hk => ?_, ?_⟩
                    · rcases List.mem_append.1 hk with hk | hk
                      · exact hne1 _ hk rfl
                      · exact hne2 _ hk rfl
                    · rw [List.nodup_append]
                      exact ⟨(List.nodup_cons.1 fn).2, (List.nodup_cons.1 gn).2, fun x hx y hy e => hdisj x (by simp [hx]) (by rw [e]; simp [hy])⟩)
                  (fun k hk => by
                    rcases List.mem_append.1 hk with hk | hk
                    · exact free1 k (by simp [hk])
                    · exact free2 k (by simp [hk]))
                  (by
                    have := lay_len elay
                    simp only [List.size_toArray, this, Array.length_toList, List.length_append, Nat.add_mul]
                    rw [hlen2] at hfitc
                    exact hfitc)
                refine Goes.value (hrun (by rw [hva, d1, hvb, e3]; exact hr)) k1 k2 ?_
                simp only [RV]
                refine ⟨_, xs.length + ys.length, c1, xs ++ ys, rfl, ⟨hroom, ?_⟩, fun e => (by cases e), by show (s3.sto.get (t, 0)).bind Obj.rw = _; rw [k4]; rfl, fun _ => by rw [List.length_append], fun _ _ e => (by cases e), fun e => (by rw [k3] at e; cases e), fun b' hb' => .inr ?_⟩
                · -- its capacity is one that a slice may have
                  have := hA
                  rw [hva] at this
                  cases A0 with
                  | arr q sz' g u =>
                    simp only [RV] at this
                    obtain ⟨_, _, cap', _, m1, ⟨_, m2⟩, _⟩ := this
                    injection m1 with _ _ m1
                    rw [m1]; exact m2
                  | emp => simp only [RV] at this; obtain ⟨_, m1⟩ := this; injection m1 with _ _ m1; rw [m1]; exact Nat.zero_le _
                  | _ => simp [ownR] at hr1
                · have : b1 = b' := by have : some b1 = some b' := k3.symm.trans hb'; injection this
                  subst this
                  refine ⟨by simp [rngOff], ?_⟩
                  rw [k5]
                  have := lay_len elay
                  simp only [List.size_toArray, this, Array.length_toList, rngOff, Nat.zero_add]
                  exact d4
              · -- a new block
                have hgt : c1 < xs.length + ys.length := by omega
                obtain ⟨cs1, F1', ⟨hF1, hnd1⟩, hcat1, hoe1, hAd⟩ : ∃ (cs1 : List Value) (F1' : List Nat), ((∀ k ∈ F1', k ∈ F1) ∧ F1'.Nodup) ∧ Cat w Z i.size xs cs1 ∧ (∀ us : List Value, (∀ j, j < xs.length * i.size → us[j]? = cs1[j]?) → OEs w Z i.size xs us F1') ∧
                    ((∃ ad, VA = some ad ∧ ∀ j u, cs1[j]? = some u → w.cell? (ad.add j) = some u) ∨ (VA = none ∧ xs = [] ∧ c1 = 0)) := by
                  rcases hcase with ⟨q1, rfl, rfl⟩ | ⟨b1, vs1, F1', d1, rfl, d3, d4, d5, d6⟩
                  · refine ⟨[], [], ⟨by simp, by simp⟩, by simp only [Cat], fun us _ => by simp only [OEs], ?_⟩
                    cases VA with
                    | none => exact .inr ⟨rfl, rfl, q1⟩
                    | some ad => exact .inl ⟨ad, rfl, by simp⟩
                  · refine ⟨vs1.toList.take (xs.length * i.size), F1', ⟨fun k hk => by simp [hk], (List.nodup_cons.1 fn).2⟩, OEs_Cat d6, fun us hus => OEs_values d6 fun j hj => ?_, .inl ⟨_, d1, fun j u hj => ?_⟩⟩
                    · rw [hus j hj, List.getElem?_take, if_pos hj]
                    · rw [List.getElem?_take] at hj
                      split at hj
                      · rw [add_plain]; simp only [World.cell?, d3, Nat.zero_add]; simpa using hj
                      · cases hj
                have hlen1 := Cat_len hcat1
                have hge := grownCap_ge w (xs.length + ys.length) c1 e
                have hcm := grownCap_le_maxLen w (xs.length + ys.length) c1 e hf4
                have hr : (Builtin.append_ #[ty, ty] o.type #[.slice VA xs.length c1, .slice (some ⟨b2, 0, none⟩) ys.length c2]).run P w = .ok (.slice (some ⟨w.heap.size, 0, none⟩) (xs.length + ys.length) (grownCap w (xs.length + ys.length) c1 e))
                    (w.drew.alloc (.cells (cs1.toArray ++ (vs2.toList.take (ys.length * i.size)).toArray ++ Builtin.zeroCells z.cells (grownCap w (xs.length + ys.length) c1 e - (xs.length + ys.length))) e)) := by
                  rcases hAd with ⟨ad, rfl, hx1⟩ | ⟨rfl, rfl, rfl⟩
                  · exact run_append_grow (P := P) w ty o.type e i z hu hi hz ad xs.length c1 cs1 hlen1 hx1 ⟨b2, 0, none⟩ ys.length c2 _ hlen2 hcell2 hgt (by omega) (growslice_fits hgt hf3)
                  · have hc0 : cs1 = [] := by simpa only [Cat] using hcat1
                    subst hc0
                    have := run_append_nil (P := P) w ty o.type e i z hu hi hz ⟨b2, 0, none⟩ ys.length c2 _ hlen2 hcell2 (by omega) (by omega) (by simp at hf3; omega)
                    simpa using this
                have hszc : (cs1.toArray ++ (vs2.toList.take (ys.length * i.size)).toArray ++ Builtin.zeroCells z.cells (grownCap w (xs.length + ys.length) c1 e - (xs.length + ys.length)) : Array Value).size = grownCap w (xs.length + ys.length) c1 e * i.size := by
                  rw [Array.size_append, Array.size_append, List.size_toArray, List.size_toArray, size_zeroCells, hzs, hlen1, hlen2, ← Nat.add_mul, ← Nat.add_mul]
                  congr 1; omega
                generalize hcells : (cs1.toArray ++ (vs2.toList.take (ys.length * i.size)).toArray ++ Builtin.zeroCells z.cells (grownCap w (xs.length + ys.length) c1 e - (xs.length + ys.length)) : Array Value) = cells at *
                have hold : ∀ k, k < w.heap.size → (w.drew.alloc (.cells cells e)).heap[k]? = w.heap[k]? := fun k hk => heap_alloc_old w.drew _ k hk
                have hzle : ZLe w (w.drew.alloc (.cells cells e)) Z Z := fun k hk => ⟨hk, hold k (h.dis k hk).1⟩
                have hget : ∀ j, cells.toList[j]? = if j < xs.length * i.size then cs1[j]? else if j < xs.length * i.size + ys.length * i.size then (vs2.toList.take (ys.length * i.size))[j - xs.length * i.size]? else cells.toList[j]? := fun j => by
                  by_cases c1' : j < xs.length * i.size
                  · rw [if_pos c1', ← hcells]
                    rw [Array.toList_append, Array.toList_append, List.getElem?_append_left (by simp; omega), List.getElem?_append_left (by simp; omega)]
                  · rw [if_neg c1']
                    by_cases c2' : j < xs.length * i.size + ys.length * i.size
                    · rw [if_pos c2', ← hcells]
                      rw [Array.toList_append, Array.toList_append, List.getElem?_append_left (by rw [List.length_append]; show j < cs1.length + _; rw [hlen1, hlen2]; omega), List.getElem?_append_right (by show cs1.length ≤ j; omega)]
                      show (List.take _ _)[j - cs1.length]? = _
                      rw [hlen1]
                    · rw [if_neg c2']
                obtain ⟨L', k1, k2, k3, k4, k5⟩ := layORow (s := s) (np := np) (b := w.heap.size) (cells := cells) (F := F1' ++ F2') (w' := w.drew.alloc (.cells cells e)) g1 (f2.trans g2) hl ht rfl rfl rfl (by simp) (fun k hk _ => hold k hk)
                  ⟨fun hz => by have := (h.dis _ hz).1; omega, fun hl => (by obtain ⟨q, ob, p1, p2⟩ := hl; have := g1.has_lt p1 p2; omega), .inl (Nat.le_refl _)⟩ (heap_alloc_new w.drew _)
                  (OEs_append.2 ⟨F1', F2', rfl, OEs_mono hzle _ _ _ _ (fun k hk => hold k (free1 k (hF1 k hk)).2.2.2) (hoe1 _ fun j hj => by rw [hget, if_pos hj]),
                    OEs_values (OEs_mono hzle _ _ _ _ (fun k hk => hold k (free2 k (by simp [hk])).2.2.2) e9) (fun j hj => by
                      rw [List.getElem?_drop, hget, if_neg (by omega), if_pos (by omega), List.getElem?_take, if_pos (by omega)]
                      congr 1
                      omega)⟩)
                  (by
                    rw [List.nodup_cons]
                    refine ⟨fun hk => ?_, ?_⟩
                    · rcases List.mem_append.1 hk with hk | hk
                      · have := (free1 _ (hF1 _ hk)).2.2.2; omega
                      · have := (free2 w.heap.size (by simp [hk])).2.2.2; omega
                    · rw [List.nodup_append]
                      exact ⟨hnd1, (List.nodup_cons.1 gn).2, fun x hx y hy e => hdisj x (hF1 x hx) (by rw [e]; simp [hy])⟩)
                  (fun k hk => by
                    rcases List.mem_append.1 hk with hk | hk
                    · exact free1 k (hF1 k hk)
                    · exact free2 k (by simp [hk]))
                  (by rw [hszc, List.length_append]; exact Nat.mul_le_mul_right _ hge)
                refine Goes.value (hrun (by rw [hva, hvb, e3]; exact hr)) k1 k2 ?_
                simp only [RV]
                refine ⟨_, xs.length + ys.length, _, xs ++ ys, rfl, ⟨hge, hcm⟩, fun e => (by cases e), by show (s3.sto.get (t, 0)).bind Obj.rw = _; rw [k4]; rfl, fun _ => by rw [List.length_append], fun _ _ e => (by cases e), fun e => (by rw [k3] at e; cases e), fun b' hb' => .inr ?_⟩
                have : w.heap.size = b' := by have : some w.heap.size = some b' := k3.symm.trans hb'; injection this
                subst this
                exact ⟨by simp [rngOff], by rw [k5, hszc]; simp [rngOff]⟩

end
end Go.Vi
