/- Slices' operations that turn nothing; new boxes and rows. -/
import Derived.Test.YtdkaahhcejipjaaOVi6
set_option linter.unusedVariables false
set_option linter.unusedSimpArgs false
set_option linter.unnecessarySimpa false
set_option linter.unusedSectionVars false
namespace Go.Vi
open Go Go.RowKit
section
variable {P : Program} {call : FuncId → List AV → List (Option Obj) → Option CRes} {loop : Nat → St → Option (Out × St)}
variable {s : St} {a : Act} {w : World} {L : Loc} {Z : Nat → Prop}

theorem elt_some {xs : List D} {i : Int} {e : D} (h : (real call loop).elt xs i = some e) : 0 ≤ i ∧ xs[i.toNat]? = some e ∧ i.toNat < xs.length := by
  simp only [real, Ora.elt, eltI] at h
  split at h
  · rename_i h0; exact ⟨h0, h, (List.getElem?_eq_some_iff.1 h).1⟩
  · cases h

theorem run_indexAt {t e : TypeId} {i : TypeInfo} (hu : P.underlying t = some (.slice e)) (hi : P.info? e = some i) {k : IntKind} {n : Int} {b o len cap : Nat} (h0 : 0 ≤ n) (h1 : n.toNat < len) :
    (Instr.indexAt t (.slice (some ⟨b, o, none⟩) len cap) (.int k n)).run P w = .ok (.pointer (some ⟨b, o + n.toNat * i.size, none⟩)) w := by
  have h2 : 0 ≤ n ∧ n < (len : Int) := by omega
  simp [Instr.indexAt, asIntOf, run_underlying hu, h2, sizeOf, typeInfo, hi, add_plain]

theorem goes_indexAddrL (np : Nat) (h : RS s a w L Z) {o : Oper} {t e : TypeId} {i : TypeInfo} {x y : Operand} {x' y' : VX} (ho : o.op = .indexAddr t x y) (hx : okX x x' = true) (hy : okX y y' = true)
    (hu : P.underlying t = some (.slice e)) (hi : P.info? e = some i) {xs : List D} {k : IntKind} {n : Int} {d : D} (e1 : ev s.env x' = some (.d (.lst xs))) (e2 : ev s.env y' = some (.d (.int k n)))
    (ed : (real call loop).elt xs n = some d) (hlen : d.cells.length = i.size) : Goes P np o s a w L Z (.sp d.cells 0) s := by
  have h1 := ev_sound h hx e1
  have h2 := ev_sound h hy e2
  simp only [RV, RD, List.cons.injEq, and_true] at h1 h2
  obtain ⟨A, c, h3, h4, h5⟩ := h1
  obtain ⟨k1, k2, k3⟩ := elt_some ed
  rcases h5 with h5 | ⟨b, off, sz, h6, h7, h8⟩
  · subst h5; simp at k2
  · subst h6
    obtain ⟨cs, m1, m2, m3⟩ := Rows_iff.1 h8 _ _ k2
    have hsz : sz = i.size := by rw [← m1, RD_len m2, hlen]
    refine Goes.pure h (run_v (m := Instr.indexAt t (a.eval x) (a.eval y)) (by unfold execOp; rw [ho]) (u := .pointer (some ⟨b, off + n.toNat * i.size, none⟩)) ?_) ?_
    · rw [h3, h2]; exact run_indexAt hu hi k1 k3
    · simp only [RV]
      exact ⟨b, off + n.toNat * i.size, cs, rfl, h7, RD_cells m2, fun j u hj => by rw [← hsz]; exact m3 j u hj⟩

theorem goes_indexAddrA (np : Nat) (h : RS s a w L Z) {o : Oper} {t e : TypeId} {i : TypeInfo} {x y : Operand} {x' y' : VX} (ho : o.op = .indexAddr t x y) (hx : okX x x' = true) (hy : okX y y' = true)
    (hu : P.underlying t = some (.slice e)) (hi : P.info? e = some i) {r : Id} {g : Option (Int × Int)} {u : Bool} {xs : List D} {k : IntKind} {n : Int} {d : D} (e1 : ev s.env x' = some (.arr r (e, i.size) g u)) (e2 : ev s.env y' = some (.d (.int k n)))
    (ec : contentR (real call loop) s.sto (.arr r (e, i.size) g u) = some xs) (ed : (real call loop).elt xs n = some d) : Goes P np o s a w L Z (.prow r (e, i.size) (match g with | none => n | some (a, _) => a + n) 0) s := by
  have h1 := ev_sound h hx e1
  have h2 := ev_sound h hy e2
  have h1' := h1
  simp only [RD, List.cons.injEq, and_true, RV] at h2
  obtain ⟨A, cap, h3⟩ := contentR_sound h.obj h1 ec
  simp only [RV] at h1'
  obtain ⟨a', n', cap', ys, m1, m2, _, m4, m5, m6, m7, m8⟩ := h1'
  obtain ⟨k1, k2, k3⟩ := elt_some ed
  rw [h3] at m1
  injection m1 with q1 q2 q3
  cases hL : L r with
  | none => have := m7 hL; omega
  | some b =>
    rcases m8 b hL with ⟨z1, _⟩ | ⟨z1, _⟩
    · omega
    · rw [← q1] at z1
      subst z1
      refine Goes.pure h (run_v (m := Instr.indexAt t (a.eval x) (a.eval y)) (by unfold execOp; rw [ho]) (u := .pointer (some ⟨b, rngOff g * i.size + n.toNat * i.size, none⟩)) ?_) ?_
      · rw [h3, h2]; exact run_indexAt hu hi k1 k3
      · simp only [RV]
        refine ⟨b, by
          cases ho : s.sto.get r with
          | none => simp [ho] at m4
          | some _ => rfl, hL, ?_, ?_⟩
        · cases g with
          | none => exact k1
          | some p => obtain ⟨x0, m0⟩ := p; have := (m6 x0 m0 rfl).1; simp only; omega
        · congr 3
          cases g with
          | none => simp [rngOff]
          | some p =>
            obtain ⟨x0, m0⟩ := p
            have := (m6 x0 m0 rfl).1
            simp only [rngOff]
            rw [← Nat.add_mul, show (x0 + n).toNat = x0.toNat + n.toNat by omega]
            rfl

theorem goes_index (np : Nat) (h : RS s a w L Z) {o : Oper} {t : TypeId} {x y : Operand} {x' y' : VX} (ho : o.op = .index t x y) (hx : okX x x' = true) (hy : okX y y' = true)
    (hu : P.underlying t = some .string) {sv : ByteArray} {k : IntKind} {n m : Int} (e1 : ev s.env x' = some (.d (.str sv))) (e2 : ev s.env y' = some (.d (.int k n)))
    (ed : (real call loop).sIdx sv n = some m) : Goes P np o s a w L Z (.d (.int .u8 m)) s := by
  have h1 := ev_sound h hx e1
  have h2 := ev_sound h hy e2
  simp only [RV, RD, List.cons.injEq, and_true] at h1 h2
  simp only [real, Ora.sIdx] at ed
  split at ed
  case isFalse => cases ed
  case isTrue h0 =>
    cases hb : sv[n.toNat]? with
    | none => simp [hb] at ed
    | some c =>
      simp [hb] at ed
      refine Goes.pure h (run_v (m := Instr.index t (a.eval x) (a.eval y)) (by unfold execOp; rw [ho]) (u := .int .u8 m) ?_) (by simp only [RV, RD])
      rw [h1, h2]
      simp [Instr.index, asIntOf, run_underlying hu, h0, hb, ← ed]

theorem goes_len (np : Nat) (h : RS s a w L Z) {o : Oper} {t : TypeId} {x : Operand} {x' : VX} (ho : o.op = .call { callee := .builtin .len, args := #[x], argTypes := #[t] }) (hx : okX x x' = true)
    {u r : AV} {isS : Bool} (e1 : ev s.env x' = some u)
    (hu' : (isS = true → P.underlying t = some .string) ∧ (isS = false → ∃ e, P.underlying t = some (.slice e)))
    (er : evalOp (real call loop) s.env s.sto (.len isS x') = some (r, [])) : Goes P np o s a w L Z r s := by
  have h1 := ev_sound h hx e1
  have hrun : ∀ {m : Value}, (Builtin.len_ #[t] o.type #[a.eval x]).run P w = .ok m w → (execOp a.eval o).run P w = .ok (.value m) w := by
    intro m hm
    unfold execOp
    rw [ho]
    simp [resolve, invoke, builtin, hm]
  have hsl : ∀ {A : Option Addr} {n c : Nat}, a.eval x = .slice A n c → (∃ e, P.underlying t = some (.slice e)) → (Builtin.len_ #[t] o.type #[a.eval x]).run P w = .ok (.int .i64 n) w := by
    rintro A n c hv ⟨e, hu⟩
    rw [hv]
    simp [Builtin.len_, run_underlying hu, goInt]
  simp only [evalOp, e1] at er
  split at er
  · cases er
  rename_i hS
  have hu : ((∃ c, u = .d (.str c)) → P.underlying t = some .string) ∧ ((¬ ∃ c, u = .d (.str c)) → ∃ e, P.underlying t = some (.slice e)) := by
    have hS' : u.isS = isS := by simpa using hS
    refine ⟨fun ⟨c, hc⟩ => hu'.1 (by rw [← hS', hc]; rfl), fun hn => hu'.2 (by
      rw [← hS']
      cases u with
      | d y => cases y <;> first | rfl | exact (hn ⟨_, rfl⟩).elim
      | _ => rfl)⟩
  cases u with
  | d y => cases y with
    | str c =>
      simp only at er
      injection er with er; injection er with er _; subst er
      simp only [RV, RD, List.cons.injEq, and_true] at h1
      refine Goes.pure h (hrun (m := .int .i64 c.size) ?_) (by simp only [RV, RD, real, Ora.sLen])
      rw [h1]
      simp [Builtin.len_, run_underlying (hu.1 ⟨_, rfl⟩), goInt]
    | lst xs =>
      simp only at er
      injection er with er; injection er with er _; subst er
      simp only [RV, RD, List.cons.injEq, and_true] at h1
      obtain ⟨A, c, h3, _⟩ := h1
      exact Goes.pure h (hrun (hsl h3 (hu.2 (by simp)))) (by simp only [RV, RD, real, Ora.len])
    | _ => simp at er
  | emp =>
    simp only at er
    injection er with er; injection er with er _; subst er
    simp only [RV] at h1
    obtain ⟨A, h3⟩ := h1
    exact Goes.pure h (hrun (hsl h3 (hu.2 (by simp)))) (by simp only [RV, RD]; rfl)
  | arr q sz g u' =>
    simp only at er
    have h1' := h1
    simp only [RV] at h1'
    obtain ⟨A, n, cap, xs, m1, _, _, m4, m5, m6, _⟩ := h1'
    split at er
    · rename_i p m
      injection er with er; injection er with er _; subst er
      have := (m6 _ _ rfl).2.1
      subst this
      exact Goes.pure h (hrun (hsl m1 (hu.2 (by simp)))) (by simp only [RV, RD])
    · split at er
      · rename_i ys hc
        injection er with er; injection er with er _; subst er
        obtain ⟨A', cap', k1⟩ := contentR_sound h.obj h1 hc
        exact Goes.pure h (hrun (hsl k1 (hu.2 (by simp)))) (by simp only [RV, RD, real, Ora.len])
      · cases er
  | _ => simp at er

/-! ### new memory -/

theorem alloc_tr {np t : Nat} {s' : St} {ob : Obj} {o : Go.Obj} {w' : World} (h : RS s a w L Z) (hl : s.lay t [some ob] = some s') (ht : t < np) (hw : w'.heap = w.heap.push o) (hos : w'.os = w.os) (htp : w'.tape = w.tape) (hop : w'.output = w.output)
    (hob : ∀ c : Cx, c.w = w' → c.Z = Z → c.L (t, 0) = some w.heap.size → (∀ q, (s.sto.get q).isSome → Same (cxOf w Z L s.sto) c q) → ZLe w c.w Z c.Z → RO c (t, 0) ob) :
    ∃ L', RS s' a w' L' Z ∧ Tr np s.sto s'.sto w w' L L' Z Z ∧ L' (t, 0) = some w.heap.size ∧ (∀ q, (s.sto.get q).isSome → Same (cxOf w Z L s.sto) (cxOf w' Z L' s'.sto) q) ∧ ZLe w w' Z Z := by
  have hk : ∀ b, b < w.heap.size → some b ≠ some w.heap.size → w'.heap[b]? = w.heap[b]? := by
    intro b hb _
    rw [hw, Array.getElem?_push, if_neg (by omega)]
  have hnb : ∀ b, some w.heap.size = some b → ¬ Z b ∧ ¬ Lives s.sto L b ∧ b < w'.heap.size ∧ (w.heap.size ≤ b ∨ Lives s.sto L b) := by
    intro b hb
    injection hb with hb
    subst hb
    refine ⟨fun hz => ?_, fun hl => ?_, by simp [hw], .inl (Nat.le_refl _)⟩
    · have := (h.dis _ hz).1; omega
    · obtain ⟨q, ob', h1, h2⟩ := hl
      have := h.has_lt h1 h2
      omega
  have hget := lay_get (show s.sto.lay t [some ob] = some s'.sto by
    unfold St.lay at hl; split at hl
    · rename_i sto e; injection hl with hl; subst hl; exact e
    · cases hl)
  have hfree := lay_free (show s.sto.lay t [some ob] = some s'.sto by
    unfold St.lay at hl; split at hl
    · rename_i sto e; injection hl with hl; subst hl; exact e
    · cases hl)
  have hsame : ∀ q, (s.sto.get q).isSome → Same (cxOf w Z L s.sto) (cxOf w' Z (upd L (t, 0) (some w.heap.size)) s'.sto) q := by
    intro q hq
    have hne : q.1 ≠ t := fun e => by rw [hfree q e] at hq; cases hq
    refine ⟨updN_ne L _ _ (fun e => hne (by rw [e])), fun k => ?_, fun sz xs k => ⟨xs, ?_, rfl⟩, fun b hb hs => ?_⟩
    · show (s'.sto.get q).isSome
      rw [hget, if_neg hne]; exact k
    · show (s'.sto.get q).bind Obj.rw = _
      rw [hget, if_neg hne]; exact k
    · obtain ⟨o', ho'⟩ := Option.isSome_iff_exists.1 hq
      exact blkSize_of_heap (hk b (h.block_lt ho' hb) (by intro e; injection e with e; have := h.block_lt ho' hb; omega))
  have hzz : ZLe w w' Z Z := fun b hb => ⟨hb, hk b (h.dis b hb).1 (by intro e; injection e with e; have := (h.dis b hb).1; omega)⟩
  obtain ⟨h1, h2, _, _⟩ := RS.lay (s0 := s) (np := np) (nb := some w.heap.size) (w' := w') h (Tr.refl _ _ _ _ _) hl ht hos htp hop (by rw [hw]; simp) hk hnb
    (hob (cxOf w' Z (upd L (t, 0) (some w.heap.size)) s'.sto) rfl rfl (upd_self _ _ _) hsame hzz)
  exact ⟨_, h1, h2, upd_self _ _ _, hsame, hzz⟩

theorem newBlock (w : World) (o : Go.Obj) : ({ w with heap := w.heap.push o } : World).heap[w.heap.size]? = some o := by simp

theorem goes_newBox {np t : Nat} {s' : St} {as : List AV} {vs : List Value} {ty : TypeId} {o : Oper} (h : RS s a w L Z) (hl : s.lay t [some (.box as)] = some s') (ht : t < np) (hv : RVs (cxOf w Z L s.sto) as vs)
    (e : (execOp a.eval o).run P w = .ok (.value (.pointer (some ⟨w.heap.size, 0, none⟩))) { w with heap := w.heap.push (.cells vs.toArray ty) }) :
    Goes P np o s a w L Z (.ptr (t, 0) 0) s' := by
  obtain ⟨L', h1, h2, h3, _, _⟩ := alloc_tr (w' := { w with heap := w.heap.push (.cells vs.toArray ty) }) (o := .cells vs.toArray ty) h hl ht rfl rfl rfl rfl (fun c h1 h2 h3 h4 h5 => by
    simp only [RO]
    refine ⟨_, vs.toArray, ty, h3, by rw [h1]; exact newBlock _ _, ?_⟩
    exact RVs_mono (c := cxOf w Z L s.sto) (c' := c) h5 _ _ (fun q hq => h4 q (RVs_refs _ _ hv q hq)) (by simpa using hv))
  refine Goes.value e h1 h2 ?_
  simp only [RV]
  refine ⟨w.heap.size, ?_, h3, rfl⟩
  have hget := lay_get (show s.sto.lay t [some (.box as)] = some s'.sto by
    unfold St.lay at hl; split at hl
    · rename_i sto e; injection hl with hl; subst hl; exact e
    · cases hl) (t, 0)
  show (s'.sto.get (t, 0)).isSome
  rw [hget]; simp

theorem goes_alloc {np t : Nat} {s' : St} {as : List AV} {ty : TypeId} {i : TypeInfo} {z : Value} {o : Oper} (h : RS s a w L Z) (ho : o.op = .alloc ty) (hi : P.info? ty = some i) (hz : i.zero = some z) (hok : valOkL z.cells.toList as = true)
    (hl : s.lay t [some (.box as)] = some s') (ht : t < np) : Goes P np o s a w L Z (.ptr (t, 0) 0) s' := by
  refine goes_newBox (ty := ty) h hl ht (valOkL_sound hok) (run_v (m := Instr.alloc ty true (.tuple #[])) (by unfold execOp; rw [ho]) ?_)
  simp [Instr.alloc, zeroValue, typeInfo, hi, hz, newVar, newRow]

mutual
theorem RD_not_agg {w : World} {Z : Nat → Prop} : ∀ (y : D) (cs : Array Value), ¬ RD w Z y [.agg cs]
  | .int k n, cs, h => by simp [RD] at h
  | .bool b, cs, h => by simp [RD] at h
  | .str s, cs, h => by simp [RD] at h
  | .lst xs, cs, h => by simp only [RD] at h; obtain ⟨_, _, h, _⟩ := h; simp at h
  | .agg ds, cs, h => by simp only [RD] at h; exact RDs_not_agg ds cs h
  | .own _ _, cs, h => by simp only [RD] at h; obtain ⟨_, _, _, h⟩ := h; simp at h
theorem RDs_not_agg {w : World} {Z : Nat → Prop} : ∀ (y : List D) (cs : Array Value), ¬ RDs w Z y [.agg cs]
  | [], cs, h => by simp [RDs] at h
  | d :: ds, cs, h => by
    simp only [RDs] at h
    obtain ⟨v, cs', h1, h2, _⟩ := h
    simp at h1
    obtain ⟨rfl, _⟩ := h1
    exact RD_not_agg d cs h2
end

theorem RV_cells {c : Cx} {x : AV} {v : Value} (h : RV c x v) (hx : ∀ vs, x ≠ .tup vs) (hu : x ≠ .undef) (hb : x ≠ .bare) : RVs c x.cells v.cells.toList := by
  have one : (∀ cs, v ≠ .agg cs) → RVs c [x] v.cells.toList := by
    intro hne
    simp only [RVs]
    refine ⟨v, [], ?_, h, rfl⟩
    cases v <;> first | rfl | exact (hne _ rfl).elim
  cases x with
  | agg as =>
    simp only [RV] at h
    obtain ⟨vs, rfl, h2⟩ := h
    simpa [AV.cells, Value.cells] using h2
  | undef => exact (hu rfl).elim
  | bare => exact (hb rfl).elim
  | tup vs => exact (hx vs rfl).elim
  | d y =>
    refine one fun cs hv => ?_
    subst hv
    simp only [RV] at h
    exact RD_not_agg y cs h
  | nilp => simp only [RV] at h; exact one fun cs hv => by rw [h] at hv; cases hv
  | emp => simp only [RV] at h; obtain ⟨A, h⟩ := h; exact one fun cs hv => by rw [h] at hv; cases hv
  | ptr r o => simp only [RV] at h; obtain ⟨b, _, _, h⟩ := h; exact one fun cs hv => by rw [h] at hv; cases hv
  | prow r sz i o => simp only [RV] at h; obtain ⟨b, _, _, _, h⟩ := h; exact one fun cs hv => by rw [h] at hv; cases hv
  | sp cs' o => simp only [RV] at h; obtain ⟨b, _, _, h, _⟩ := h; exact one fun cs hv => by rw [h] at hv; cases hv
  | arr r sz g u => simp only [RV] at h; obtain ⟨_, _, _, _, h, _⟩ := h; exact one fun cs hv => by rw [h] at hv; cases hv
  | fn f as => simp only [RV] at h; obtain ⟨_, h, _⟩ := h; exact one fun cs hv => by rw [h] at hv; cases hv

theorem goes_box {np t : Nat} {s' : St} {ty : TypeId} {x : Operand} {x' : VX} {o : Oper} (h : RS s a w L Z) (ho : o.op = .box ty x) (hx : okX x x' = true) {u : AV} (e : ev s.env x' = some u) (hu : ∀ vs, u ≠ .tup vs) (hu2 : u ≠ .undef) (hu3 : u ≠ .bare)
    (hl : s.lay t [some (.box u.cells)] = some s') (ht : t < np) : Goes P np o s a w L Z (.ptr (t, 0) 0) s' := by
  refine goes_newBox (ty := ty) (vs := (a.eval x).cells.toList) h hl ht (RV_cells (ev_sound h hx e) hu hu2 hu3) (run_v (m := Instr.box ty (a.eval x)) (by unfold execOp; rw [ho]) ?_)
  simp [Instr.box, newVar, newRow]

end
end Go.Vi
