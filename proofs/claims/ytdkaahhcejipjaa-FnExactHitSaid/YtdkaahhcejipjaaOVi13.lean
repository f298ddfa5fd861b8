/- Slices of slices and of texts; texts of bytes; literals of structs. -/
import Derived.Test.YtdkaahhcejipjaaOVi12c
set_option linter.unusedVariables false
set_option linter.unusedSimpArgs false
set_option linter.unnecessarySimpa false
set_option linter.unusedSectionVars false
namespace Go.Vi
open Go Go.RowKit
section
variable {P : Program} {call : FuncId → List AV → List (Option Obj) → Option CRes} {loop : Nat → St → Option (Out × St)}
variable {s : St} {a : Act} {w : World} {L : Loc} {Z : Nat → Prop}

/-! ### texts of bytes -/

theorem strOf_eq : ∀ {xs : List D} {bs : List UInt8}, ofBytesI xs = some bs → ∃ ns : List Int, xs = ns.map (fun n => D.int .u8 n) ∧ bs = ns.map fun n => UInt8.ofNat n.toNat
  | [], bs, e => by simp only [ofBytesI] at e; injection e with e; subst e; exact ⟨[], rfl, rfl⟩
  | .int .u8 n :: l, bs, e => by
    simp only [ofBytesI] at e
    split at e
    · rename_i bs' e2
      injection e with e; subst e
      obtain ⟨ns, h1, h2⟩ := strOf_eq e2
      exact ⟨n :: ns, by simp [h1], by simp [h2]⟩
    · cases e

theorem goes_bytesToStr (np : Nat) (h : RS s a w L Z) {o : Oper} {t t' e : TypeId} {x : Operand} {x' : VX} (ho : o.op = .convert t t' x) (hx : okX x x' = true) {A : AV} {xs : List D} {u : ByteArray}
    (hs : P.underlying t = some (.slice e)) (he : P.underlying e = some (.int .u8)) (hd : P.underlying t' = some .string)
    (e1 : ev s.env x' = some A) (e2 : content (real call loop) s.sto A = some xs) (e3 : (real call loop).ofBytes xs = some u) : Goes P np o s a w L Z (.d (.str u)) s := by
  have h1 := ev_sound h hx e1
  obtain ⟨B, cap, b1, b2, b3⟩ := content_sound h.obj h1 e2
  simp only [real, Ora.ofBytes, Option.map_eq_some_iff] at e3
  obtain ⟨bs, e4, e5⟩ := e3
  obtain ⟨ns, n1, n2⟩ := strOf_eq e4
  refine Goes.pure h (run_v (m := convert t t' (a.eval x)) (by unfold execOp; rw [ho]) (u := .string u) ?_) (by simp only [RV, RD])
  rw [b1]
  have hu : u = strOfNums ns := by rw [← e5, n2]; rfl
  by_cases hne : xs = []
  · have hn : ns = [] := by rw [hne] at n1; simpa using n1.symm
    have hlen : xs.length = 0 := by rw [hne]; rfl
    rw [hlen, hu, hn]
    cases B with
    | none => exact run_convert_bytes_nil w t e hs he 0 cap t' hd
    | some ad => exact run_convert_bytes_back w t t' e ad cap [] hs he hd (fun j hj => by simp at hj)
  · obtain ⟨b, off, sz, c1, c2, _⟩ := b3.resolve_left hne
    subst c1
    rw [hu]
    have hlen : ns.length = xs.length := by rw [n1]; simp
    refine run_convert_bytes_arg w t e hs he b off xs.length cap ns hlen (fun i hi => ?_) t' hd
    have hi' : i < ns.length := by omega
    obtain ⟨cs, d1, d2, d3⟩ := Rows_iff.1 c2 i (D.int .u8 ns[i]) (by rw [n1]; simp [List.getElem?_eq_getElem hi'])
    simp only [RD] at d2
    subst d2
    have hsz : sz = 1 := by simpa using d1.symm
    subst hsz
    have := d3 0 _ rfl
    simp only [Nat.mul_one, Nat.add_zero] at this
    rw [this]
    simp [List.getD, List.getElem?_eq_getElem hi']

/-! ### slices -/

theorem run_slice_gen {t e : TypeId} {i : TypeInfo} (hu : P.underlying t = some (.slice e)) (hi : P.info? e = some i) {A : Option Addr} {n cap : Nat} {lo hi' : Option Value} {l h : Int}
    (hlo : (lo = none ∧ l = 0) ∨ ∃ k, lo = some (.int k l)) (hhi : (hi' = none ∧ h = n ∧ n ≤ cap) ∨ ∃ k, hi' = some (.int k h)) (h0 : 0 ≤ l) (h1 : l ≤ h) (h2 : h ≤ cap) :
    (Instr.slice t (.slice A n cap) lo hi' none).run P w = .ok (sliced A l.toNat h.toNat cap i.size) w := by
  have he : P.elem t = e := by simp [Program.elem, hu]
  have hu' : P.underlying t = some (.slice (P.elem t)) := by rw [he]; exact hu
  have hsz : (sizeOf (P.elem t)).run P w = .ok i.size w := by rw [he]; simp [sizeOf, typeInfo, hi]
  rcases hlo with ⟨rfl, rfl⟩ | ⟨kl, rfl⟩
  · rcases hhi with ⟨rfl, rfl, hn⟩ | ⟨kh, rfl⟩
    · rw [run_slice_all w t A n cap hu', hsz]; simp [Result.andThen]
    · rw [run_slice_h w t A n cap hu' kh h h1 h2, hsz]; simp [Result.andThen]
  · rcases hhi with ⟨rfl, rfl, hn⟩ | ⟨kh, rfl⟩
    · rw [run_slice_l w t A n cap hu' kl l h0 h1, hsz]; simp [Result.andThen]
    · rw [run_slice_lh w t A n cap hu' kl kh l h h0 h1 h2, hsz]; simp [Result.andThen]

theorem evO_sound (h : RS s a w L Z) {x : Option Operand} {x' : Option VX} (hx : okXO x x' = true) {y : Option AV} {n : Option Int} (e1 : evO s.env x' = some y) (e2 : asIntO y = some n) :
    (x.map a.eval = none ∧ n = none) ∨ ∃ k m, n = some m ∧ x.map a.eval = some (.int k m) := by
  unfold okXO at hx
  split at hx
  · simp only [evO] at e1; injection e1 with e1; subst e1
    simp only [asIntO] at e2; injection e2 with e2; subst e2
    exact .inl ⟨rfl, rfl⟩
  · simp only [evO] at e1
    split at e1
    · rename_i u e3
      injection e1 with e1; subst e1
      have h1 := ev_sound h hx e3
      simp only [asIntO] at e2
      split at e2
      · rename_i m e4
        injection e2 with e2; subst e2
        cases u with
        | d y =>
          cases y with
          | int k q =>
            simp only [asInt] at e4; injection e4 with e4; subst e4
            simp only [RV, RD, List.cons.injEq, and_true] at h1
            exact .inr ⟨k, q, rfl, by simp [h1]⟩
          | _ => simp [asInt] at e4
        | _ => simp [asInt] at e4
      · cases e2
    · cases e1
  · cases hx

theorem sub_some {xs ys : List D} {x n : Int} (e : (real call loop).sub xs x n = some ys) : 0 ≤ x ∧ 0 ≤ n ∧ x + n ≤ xs.length ∧ ys = (xs.drop x.toNat).take n.toNat := by
  simp only [real, Ora.sub, subI] at e
  split at e
  · rename_i h; injection e with e; exact ⟨h.1, h.2.1, h.2.2, e.symm⟩
  · cases e

theorem goes_sliceStr (np : Nat) (h : RS s a w L Z) {o : Oper} {t : TypeId} {x : Operand} {lo hi mx : Option Operand} {x' : VX} {lo' hi' : Option VX} (ho : o.op = .slice t x lo hi mx) (hx : okX x x' = true)
    (hlo : okXO lo lo' = true) (hhi : okXO hi hi' = true) (hmx : mx = none) (ht : P.underlying t = some .string) {u v : ByteArray} {y1 y2 : Option AV} {l h' : Option Int}
    (e1 : ev s.env x' = some (.d (.str u))) (e2 : evO s.env lo' = some y1) (e3 : evO s.env hi' = some y2) (e4 : asIntO y1 = some l) (e5 : asIntO y2 = some h')
    (e : (real call loop).sSub u (l.getD 0) (h'.getD ((real call loop).sLen u)) = some v) : Goes P np o s a w L Z (.d (.str v)) s := by
  have h1 := ev_sound h hx e1
  simp only [RV, RD, List.cons.injEq, and_true] at h1
  have k1 := evO_sound h hlo e2 e4
  have k2 := evO_sound h hhi e3 e5
  simp only [real, Ora.sSub, Ora.sLen] at e
  split at e
  case isFalse => cases e
  case isTrue hc =>
    injection e with e
    subst hmx
    refine Goes.pure h (run_v (m := Instr.sliceAt t (a.eval x) (lo.map a.eval) (hi.map a.eval) none) (by unfold execOp; rw [ho]; rfl) (u := .string v) ?_) (by simp only [RV, RD])
    rw [run_sliceAt_string w t _ _ _ _ ht, h1]
    obtain ⟨c1, c2, c3⟩ := hc
    rcases k1 with ⟨q1, q2⟩ | ⟨kl, ml, q2, q1⟩
    · rcases k2 with ⟨q3, q4⟩ | ⟨kh, mh, q4, q3⟩
      · subst q2; subst q4
        simp only [Option.getD_none] at c1 c2 c3 e
        simp [Instr.slice, run_underlying ht, Instr.sliceBounds, q1, q3]
        simpa using e
      · subst q2; subst q4
        simp only [Option.getD_none, Option.getD_some] at c1 c2 c3 e
        simp [Instr.slice, run_underlying ht, Instr.sliceBounds, q1, q3, run_sliceBound, c2, c3]
        simpa using e
    · rcases k2 with ⟨q3, q4⟩ | ⟨kh, mh, q4, q3⟩
      · subst q2; subst q4
        simp only [Option.getD_none, Option.getD_some] at c1 c2 c3 e
        simp [Instr.slice, run_underlying ht, Instr.sliceBounds, q1, q3, run_sliceBound, c1, c2, c3]
        simpa using e
      · subst q2; subst q4
        simp only [Option.getD_some] at c1 c2 c3 e
        have em : (mh.toNat : Int) = mh := Int.toNat_of_nonneg (by omega)
        simp [Instr.slice, run_underlying ht, Instr.sliceBounds, q1, q3, run_sliceBound, c1, c2, c3, em, (by omega : 0 ≤ mh)]
        simpa using e

theorem goes_slice (np : Nat) (h : RS s a w L Z) {o : Oper} {t e : TypeId} {i : TypeInfo} {x : Operand} {lo hi mx : Option Operand} {x' : VX} {lo' hi' mx' : Option VX} (ho : o.op = .slice t x lo hi mx) (hx : okX x x' = true)
    (hlo : okXO lo lo' = true) (hhi : okXO hi hi' = true) (hmx : okXO mx mx' = true) (hu : P.underlying t = some (.slice e)) (hi0 : P.info? e = some i) {A v : AV} {y1 y2 y3 : Option AV} {l h' m : Option Int}
    (e1 : ev s.env x' = some A) (e2 : evO s.env lo' = some y1) (e3 : evO s.env hi' = some y2) (e6 : evO s.env mx' = some y3) (e4 : asIntO y1 = some l) (e5 : asIntO y2 = some h') (e7 : asIntO y3 = some m)
    (es : sliceAt (real call loop) s.sto (e, i.size) A l h' m = some v) : Goes P np o s a w L Z v s := by
  have h1 := ev_sound h hx e1
  have k1 := evO_sound h hlo e2 e4
  have k2 := evO_sound h hhi e3 e5
  have k3 := evO_sound h hmx e6 e7
  have he : P.elem t = e := by simp [Program.elem, hu]
  have hu' : P.underlying t = some (.slice (P.elem t)) := by rw [he]; exact hu
  have hrun : ∀ {u : Value}, (Instr.slice t (a.eval x) (lo.map a.eval) (hi.map a.eval) (mx.map a.eval)).run P w = .ok u w → (execOp a.eval o).run P w = .ok (.value u) w := by
    intro u hm
    refine run_v (m := Instr.sliceAt t (a.eval x) (lo.map a.eval) (hi.map a.eval) (mx.map a.eval)) (by unfold execOp; rw [ho]) ?_
    rw [run_sliceAt_slice w t _ _ _ _ hu']; exact hm
  unfold sliceAt at es
  split at es
  · -- with a bound for the room
    rename_i mm
    obtain ⟨km, mm', q1, q2⟩ := k3.resolve_left (by rintro ⟨_, q⟩; cases q)
    injection q1 with q1; subst q1
    split at es
    case h_2 => cases es
    case h_1 xs hh hc =>
      split at es
      case h_2 => cases es
      case h_1 hz1 hz2 =>
        injection es with es; subst es
        simp only [real, Ora.isZero] at hz1 hz2
        have z1 := of_decide_eq_true hz1
        have z2 := of_decide_eq_true hz2
        subst z1; subst z2
        obtain ⟨k4, q3⟩ : lo.map a.eval = none ∧ True := by
          rcases k1 with ⟨q, _⟩ | ⟨_, _, q, _⟩
          · exact ⟨q, trivial⟩
          · cases q
        obtain ⟨kh, hh', q4, q5⟩ := k2.resolve_left (by rintro ⟨_, q⟩; cases q)
        injection q4 with q4; subst q4
        obtain ⟨B, cap, b1, b2, _⟩ := content_sound h.obj h1 hc
        have := run_slice_hm (P := P) w t B xs.length cap hu' kh km 0 0 (Int.le_refl _) (Int.le_refl _) (by omega)
        refine Goes.pure h (hrun (u := .slice B 0 0) ?_) (by simp only [RV]; exact ⟨B, rfl⟩)
        rw [b1, k4, q5, q2, this, he]
        simp [sizeOf, typeInfo, hi0, Result.andThen, sliced]
  · have q0 : mx.map a.eval = none := by
      rcases k3 with ⟨q, _⟩ | ⟨_, _, q, _⟩
      · exact q
      · cases q
    rw [q0] at hrun
    have hl : ∃ ll : Int, ((lo.map a.eval = none ∧ ll = 0) ∨ ∃ k, lo.map a.eval = some (.int k ll)) ∧ ll = l.getD 0 := by
      rcases k1 with ⟨q1, q2⟩ | ⟨k, m', q1, q2⟩
      · exact ⟨0, .inl ⟨q1, rfl⟩, by rw [q2]; rfl⟩
      · exact ⟨m', .inr ⟨k, q2⟩, by rw [q1]; rfl⟩
    obtain ⟨ll, hl1, hl2⟩ := hl
    have hh : ∀ n cap : Nat, n ≤ cap → ((hi.map a.eval = none ∧ h'.getD n = n ∧ n ≤ cap) ∨ ∃ k, hi.map a.eval = some (.int k (h'.getD n))) := by
      intro n cap hn
      rcases k2 with ⟨q1, q2⟩ | ⟨k, m', q1, q2⟩
      · exact .inl ⟨q1, by rw [q2]; rfl, hn⟩
      · exact .inr ⟨k, by rw [q2, q1]; rfl⟩
    split at es
    · -- an empty one
      simp only [RV] at h1
      obtain ⟨B, h1⟩ := h1
      rw [h1] at hrun
      have hz : l.getD 0 = 0 ∧ h'.getD 0 = 0 ∧ v = .emp := by
        split at es
        · injection es with es; exact ⟨rfl, rfl, es.symm⟩
        · split at es
          · rename_i z1 z2
            injection es with es
            simp only [real, Ora.isZero] at z1 z2
            exact ⟨of_decide_eq_true z1, of_decide_eq_true z2, es.symm⟩
          · cases es
      obtain ⟨z1, z2, rfl⟩ := hz
      have hg := run_slice_gen (P := P) (w := w) (A := B) (n := 0) (cap := 0) hu hi0 hl1 (hh 0 0 (Nat.le_refl _)) (by omega) (by simp; omega) (by simp; omega)
      refine Goes.pure h (hrun hg) ?_
      simp only [RV]
      have z2' : (h'.getD ((0 : Nat) : Int)).toNat = 0 := by have : h'.getD ((0 : Nat) : Int) = 0 := z2; rw [this]; rfl
      rw [z2', hl2, z1]
      exact ⟨B, by simp [sliced]⟩
    · -- data
      rename_i xs
      simp only [RV, RD] at h1
      obtain ⟨B, cap, h1, b2, b3⟩ := h1
      injection h1 with h1
      rw [h1] at hrun
      split at es
      case h_2 => cases es
      case h_1 hfit =>
        split at es
        case h_2 => cases es
        case h_1 ys hys =>
          injection es with es; subst es
          obtain ⟨c1, c2, c3, c4⟩ := sub_some hys
          simp only [real, Ora.minus, Ora.len] at c1 c2 c3 c4
          have hg := run_slice_gen (P := P) (w := w) (A := B) (n := xs.length) (cap := cap) hu hi0 hl1 (hh _ _ b2) (by omega) (by omega) (by omega)
          refine Goes.pure h (hrun hg) ?_
          have hylen : ys.length = (h'.getD xs.length).toNat - ll.toNat := by
            rw [c4, List.length_take, List.length_drop]; omega
          simp only [RV, RD, sliced]
          refine ⟨_, cap - ll.toNat, by rw [hylen], by omega, ?_⟩
          by_cases hy0 : ys = []
          · exact .inl hy0
          · right
            have hpos := List.length_pos_iff.2 hy0
            have hxne : xs ≠ [] := by rintro rfl; simp at c4; exact hy0 c4
            obtain ⟨b, off, sz, d1, d2, d3⟩ := b3.resolve_left hxne
            rw [if_neg (by omega), d1]
            simp only [Option.map_some, add_plain]
            by_cases hl0 : ll = 0
            · refine ⟨b, off + ll.toNat * i.size, sz, rfl, d2, ?_⟩
              rw [c4, ← hl2, hl0]
              simpa using Rows_take _ d3
            · have hfit' : (real call loop).fits i.size 0 xs = true := by
                cases l with
                | none => exact (hl0 hl2).elim
                | some l => exact hfit
              simp only [real, Ora.fits, Bool.and_eq_true] at hfit'
              have hall := List.all_eq_true.1 hfit'.2
              have hsz : sz = i.size := by
                obtain ⟨x0, hx0⟩ := List.exists_mem_of_ne_nil _ hxne
                have a1 := hall x0 hx0
                simp only [beq_iff_eq] at a1
                obtain ⟨j, hj⟩ := List.getElem?_of_mem hx0
                obtain ⟨cs, r1, r2, _⟩ := Rows_iff.1 d3 j x0 hj
                rw [← r1, RD_len r2, a1]
              subst hsz
              refine ⟨b, off + ll.toNat * i.size, i.size, rfl, d2, ?_⟩
              rw [c4, ← hl2]
              exact Rows_take _ (Rows_drop _ d3)
    · -- a row of the run's own
      rename_i r sz g u
      split at es
      · cases es
      rename_i xs hxs
      obtain ⟨B, cap, b1, b2, _⟩ := content_sound h.obj h1 hxs
      rw [b1] at hrun
      have h1' := h1
      simp only [RV] at h1'
      obtain ⟨a', n', cap', xs0, m1, ⟨m2, m2'⟩, m3, m4, m5, m6, m7, m8⟩ := h1'
      rw [b1] at m1
      injection m1 with w1 w2 w3
      subst w1; subst w3
      split at es
      · -- all
        injection es with es; subst es
        have hl0 : ll = 0 := hl2
        subst hl0
        have hg := run_slice_gen (P := P) (w := w) (A := B) (n := xs.length) (cap := cap) hu hi0 hl1 (hh _ _ b2) (by omega) (by simp) (by simp; omega)
        refine Goes.pure h (hrun hg) ?_
        have : sliced B (0 : Int).toNat ((none : Option Int).getD (xs.length : Int)).toNat cap i.size = .slice B xs.length cap := by
          simp only [sliced, Int.toNat_zero, Option.getD_none, Int.toNat_natCast, Nat.sub_zero, Nat.zero_mul]
          split
          · rfl
          · rename_i hc0
            have : L r ≠ none := fun hL => hc0 (m7 hL)
            obtain ⟨b, hb⟩ := Option.ne_none_iff_exists'.1 this
            rcases m8 b hb with ⟨k, _⟩ | ⟨k, _⟩
            · exact (hc0 k).elim
            · rw [k]; simp [add_plain]
        rw [this, ← b1]
        exact h1
      · split at es
        case isFalse => cases es
        case isTrue hsz =>
          subst hsz
          split at es
          case h_2 => cases es
          case h_1 ys hys =>
            injection es with es; subst es
            obtain ⟨c1, c2, c3, c4⟩ := sub_some hys
            simp only [real, Ora.minus, Ora.len] at c1 c2 c3 c4
            have hg := run_slice_gen (P := P) (w := w) (A := B) (n := xs.length) (cap := cap) hu hi0 hl1 (hh _ _ b2) (by omega) (by omega) (by omega)
            refine Goes.pure h (hrun hg) ?_
            have hbase : ∃ base : Int, ((g = none ∧ base = 0) ∨ ∃ m, g = some (base, m)) ∧ 0 ≤ base ∧ base.toNat = rngOff g ∧ base.toNat + xs.length ≤ xs0.length := by
              cases g with
              | none => exact ⟨0, .inl ⟨rfl, rfl⟩, Int.le_refl _, rfl, by have := m5 rfl; simp; omega⟩
              | some p =>
                obtain ⟨p1, p2⟩ := p
                obtain ⟨r1, r2, r3⟩ := m6 p1 p2 rfl
                exact ⟨p1, .inr ⟨p2, rfl⟩, r1, rfl, by omega⟩
            obtain ⟨base, g1, g2, g3, g4⟩ := hbase
            suffices hX : ∀ X : Int, X = base + l.getD 0 → RV (cxOf w Z L s.sto) (.arr r (e, i.size) (some (X, (real call loop).minus (h'.getD ((real call loop).len xs)) (l.getD 0))) false) (sliced B ll.toNat (h'.getD ↑xs.length).toNat cap i.size) by
              refine hX _ ?_
              rcases g1 with ⟨rfl, rfl⟩ | ⟨mm, rfl⟩
              · simp
              · rfl
            intro X hXe
            subst hXe
            simp only [RV, sliced]
            have hro : rngOff (some (base + l.getD 0, (real call loop).minus (h'.getD ((real call loop).len xs)) (l.getD 0))) = rngOff g + ll.toNat := by
              show (base + l.getD 0).toNat = rngOff g + ll.toNat
              omega
            refine ⟨_, (h'.getD xs.length).toNat - ll.toNat, cap - ll.toNat, xs0, rfl, ⟨by omega, by omega⟩, fun e => (by cases e), m4, fun e => (by cases e), fun x m e => ?_, fun e => ?_, fun b hb => ?_⟩
            · injection e with e; injection e with e3 e4
              subst e3; subst e4
              refine ⟨by omega, ?_, ?_⟩
              · simp only [real, Ora.minus, Ora.len]; omega
              · omega
            · have := m7 e; omega
            · rw [hro]
              rcases m8 b hb with ⟨k1', k2'⟩ | ⟨k1', k2'⟩
              · left; exact ⟨by omega, by omega⟩
              · by_cases hc0 : cap - ll.toNat = 0
                · by_cases hr0 : rngOff g + ll.toNat = 0
                  · right
                    have hcl : cap = ll.toNat := by omega
                    refine ⟨?_, ?_⟩
                    · rw [if_pos hcl, k1', hr0]
                      have : rngOff g = 0 := by omega
                      rw [this]
                    · rw [← k2']; congr 1; omega
                  · left; exact ⟨hc0, hr0⟩
                · right
                  refine ⟨?_, ?_⟩
                  · rw [if_neg (by omega), k1']
                    simp only [Option.map_some, add_plain, Nat.add_mul]
                  · rw [← k2']; congr 1; omega
    · cases es

/-! ### literals of structs -/

def okParts (places : List (Nat × Nat)) : List (Nat × Operand) → List (Nat × Nat × VX) → Bool
  | [], [] => true
  | (i, x) :: l, (off, n, y) :: r => (match places[i]? with | some p => p.1 == off && p.2 == n | none => false) && okX x y && okParts places l r
  | _, _ => false

theorem RV_cells' {c : Cx} {x : AV} {v : Value} (h : RV c x v) (hx : x.whole = true) : RVs c x.cells v.cells.toList := by
  refine RV_cells h ?_ ?_ ?_
  · rintro vs rfl; cases hx
  · rintro rfl; cases hx
  · rintro rfl; cases hx

theorem parts_fill (h : RS s a w L Z) {places : List (Nat × Nat)} : ∀ {ps : List (Nat × Operand)} {qs : List (Nat × Nat × VX)} {rs : List (Nat × List AV)} {cs r : List AV} {cells : Array Value}, okParts places ps qs = true → evParts s.env qs = some rs →
    RVs (cxOf w Z L s.sto) cs cells.toList → fillA cs rs = some r → ∃ cells', Instr.fill (places.toArray[·]?) cells (ps.map fun p => (p.1, a.eval p.2)) = some cells' ∧ RVs (cxOf w Z L s.sto) r cells'.toList
  | [], [], rs, cs, r, cells, _, e1, hc, e2 => by
    simp only [evParts] at e1; injection e1 with e1; subst e1
    simp only [fillA] at e2; injection e2 with e2; subst e2
    exact ⟨cells, rfl, hc⟩
  | (i, x) :: ps, (off, n, y) :: qs, rs, cs, r, cells, hk, e1, hc, e2 => by
    simp only [okParts, Bool.and_eq_true] at hk
    obtain ⟨⟨h1, h2⟩, h3⟩ := hk
    split at h1
    case h_2 => cases h1
    case h_1 p hp =>
      simp only [Bool.and_eq_true, beq_iff_eq] at h1
      obtain ⟨h1a, h1b⟩ := h1
      simp only [evParts] at e1
      split at e1
      case h_2 => cases e1
      case h_1 u eu =>
        split at e1
        case h_2 => cases e1
        case h_1 hw hn =>
          split at e1
          case h_2 => cases e1
          case h_1 rs' er =>
            injection e1 with e1; subst e1
            simp only [fillA] at e2
            split at e2
            case h_2 => cases e2
            case h_1 cs' el =>
              have hn' : u.cells.length = n := by simpa using hn
              have hv := RV_cells' (ev_sound h h2 eu) hw
              have hlen := (RVs_iff.1 hv).1
              have hcl := (RVs_iff.1 hc).1
              obtain ⟨l1, l2⟩ := lay_some el
              have hsz : (a.eval x).cells.size = n := by simp at hlen; omega
              have hplace : places.toArray[i]? = some (off, (a.eval x).cells.size) := by
                rw [hsz, List.getElem?_toArray, hp, ← h1a, ← h1b]
              simp only [List.map_cons]
              rw [fill_step hplace (by simp at hcl; omega)]
              exact parts_fill h h3 er (by have := RVs_lay hc hv el; simpa using this) e2
  | [], _ :: _, _, _, _, _, hk, _, _, _ => by simp [okParts] at hk
  | _ :: _, [], _, _, _, _, hk, _, _, _ => by simp [okParts] at hk

theorem goes_build (np : Nat) (h : RS s a w L Z) {o : Oper} {t : TypeId} {i : TypeInfo} {z : Value} {fields : Array Field} {places : List (Nat × Nat)} {ps : Array (Nat × Operand)} {qs : List (Nat × Nat × VX)} {zero cs : List AV} {rs : List (Nat × List AV)}
    (ho : o.op = .build t ps) (hu : P.underlying t = some (.struct fields)) (hi : P.info? t = some i) (hz : i.zero = some z) (hpl : fields.toList.mapM (fun f => (P.info? f.type).map fun i => (f.offset, i.size)) = some places)
    (hk : okParts places ps.toList qs = true) (hok : valOkL z.cells.toList zero = true) (e1 : evParts s.env qs = some rs) (e2 : fillA zero rs = some cs) : Goes P np o s a w L Z (.agg cs) s := by
  obtain ⟨cells', c1, c2⟩ := parts_fill h hk e1 (valOkL_sound hok) e2
  have hb : P.built t (ps.map fun (i, x) => (i, a.eval x)).toList = some cells' := by
    unfold Program.built
    simp only [hi, hu, hz, hpl]
    simpa using c1
  refine Goes.pure h (run_v (m := Instr.build t (ps.map fun (i, x) => (i, a.eval x))) (by unfold execOp; rw [ho]) (run_build w t _ cells' hb)) ?_
  simp only [RV]
  exact ⟨cells'.toList, by simp, c2⟩

end
end Go.Vi
