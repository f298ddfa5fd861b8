/- slices.Clone: nil or not, the same comes out. -/
import Derived.Test.YtdkaahhcejipjaaOVi22
set_option linter.unusedVariables false
set_option linter.unusedSimpArgs false
set_option linter.unnecessarySimpa false
set_option linter.unusedSectionVars false
namespace Go.Vi
open Go Go.RowKit

def ofOut : Out → Exit
  | .norm => .normal
  | .ret => .ret
  | .exit id => .exit id


def okClone (P : Program) (np x y c dst t : Nat) (zero : List AV) (sz : Elt) (agg : Bool) : Code → Bool
  | .seq (.region _ r1 d1) (.cond (.tmp c') (.seq (.region _ r2 d2) .ret) .skip) =>
    !d1 && !d2 && c' == c && decide (t < np) && zero.length == sz.2 && (match dZ zero with | some ds => (D.ofCells agg ds).isSome | none => false) && (match r1.toList with
    | [o1, o2] => okOper P np r1 o1 ⟨some y, none, .move (.tmp x)⟩ && o2.dst == some c && o2.guard.isNone && (match o2.op with
      | .binOp .eql ty (.tmp y') (.const (.slice none 0 0)) _ => y' == y && (match P.underlying ty with | some (.slice _) => true | _ => false)
      | _ => false)
    | _ => false) && okIx P np r2 (List.range r2.size) [⟨some dst, none, .move (.const .emp)⟩]
  | _ => false

section
variable {P : Program} {call : FuncId → List AV → List (Option Obj) → Option CRes} {loop : Nat → St → Option (Out × St)}
variable {s : St} {a : Act} {w : World} {L : Loc} {Z : Nat → Prop}

theorem equal_nilS {t e : TypeId} (ht : P.underlying t = some (.slice e)) (p : Option Addr) (n cap : Nat) : (Op.equal t (.slice p n cap) (.slice none 0 0)).run P w = .ok p.isNone w := by
  have : ∀ d, (Op.equalIn (d + 1) t (.slice p n cap) (.slice none 0 0)).run P w = .ok p.isNone w := by
    intro d
    rw [Op.equalIn]
    cases p <;> simp [run_underlying ht]
  exact this 9999

theorem goes_eqNilS (np : Nat) (h : RS s a w L Z) {o : Oper} {t t' e : TypeId} {x : Operand} (ho : o.op = .binOp .eql t x (.const (.slice none 0 0)) t') (hu : P.underlying t = some (.slice e)) {p : Option Addr} {n cap : Nat} (hv : a.eval x = .slice p n cap) :
    Goes P np o s a w L Z (.d (.bool p.isNone)) s := by
  refine Goes.pure h (u := .bool p.isNone) ?_ (by simp only [RV, RD])
  refine run_v (m := do eqGuard .eql t x (.const (.slice none 0 0)) (a.eval x) (.slice none 0 0); binOp .eql t (a.eval x) (.slice none 0 0)) (by unfold execOp; rw [ho]; rfl) ?_
  rw [hv]
  have hg : (eqGuard .eql t x (.const (.slice none 0 0)) (.slice p n cap) (.slice none 0 0)).run P w = .ok () w := by
    unfold eqGuard; rfl
  have hm : (binOp .eql t (.slice p n cap) (.slice none 0 0)).run P w = .ok (.bool p.isNone) w := by
    simp only [binOp]
    rw [Sem.run_bind, equal_nilS hu]
    rfl
  simp [hg, hm]

theorem RVs_le {c : Cx} {as bs : List AV} {vs : List Value} (h : RVs c as vs) (hl : bs.length = as.length) (hb : ∀ (i : Nat) (b : AV), bs[i]? = some b → b = AV.undef ∨ as[i]? = some b) : RVs c bs vs := by
  rw [RVs_iff] at h ⊢
  refine ⟨hl.trans h.1, fun i b v h1 h2 => ?_⟩
  rcases hb i b h1 with rfl | h3
  · simp only [RV]
  · exact h.2 i b v h3 h2

theorem clone_sound {np x y c b m t dst : Nat} {sz : Elt} {bytes : Nat} {agg : Bool} {zero : List AV} {cx cy : Code} {out : Out} {s' : St} (hco : CallOk P call) (h : RS s a w L Z) (hok1 : okClone P np x y c dst t zero sz agg cx = true) (hok2 : [x, y, c, b, m, t, dst].Nodup)
    (e : exec (real call loop) (.clone x y c b m t dst sz bytes agg zero) s = some (out, s')) (Q : Exit → Act → World → Prop) (hQ : ∀ a' w' L' Z', RS s' a' w' L' Z' → Tr np s.sto s'.sto w w' L L' Z Z' → Q (ofOut out) a' w')
    (hy : ∀ a1 w1 L1 Z1 s1 s2 out, RS s1 a1 w1 L1 Z1 → exec (real call loop) (.seq (.reg [⟨some b, none, .buildSlice sz agg zero 0 []⟩, ⟨some m, none, .move (.tmp x)⟩, ⟨some t, none, .append sz bytes (.tmp b) (.tmp m)⟩, ⟨some dst, none, .move (.tmp t)⟩]) .ret) s1 = some (out, s2) →
      (∀ a' w' L' Z', RS s2 a' w' L' Z' → Tr np s1.sto s2.sto w1 w' L1 L' Z1 Z' → Q (ofOut out) a' w') → cy.wp P Q a1 w1) : (Code.seq cx cy).wp P Q a w := by
  simp only [exec] at e
  split at e
  case h_2 => cases e
  case h_1 xs hx =>
    split at e
    case h_2 => cases e
    case h_1 hfit =>
      split at e
      case h_2 => cases e
      case h_1 s2 hl =>
        obtain ⟨hlay, henv⟩ := lay_sto hl
        rw [henv] at e
        split at e
        case isFalse => cases e
        case isTrue hlen =>
          obtain ⟨l1, l2, l3, l4, l5, l6⟩ := hlen
          injection e with e; injection e with e1 e2; subst e1; subst e2
          simp only [List.nodup_cons, List.mem_cons, List.not_mem_nil, or_false, not_or, List.nodup_nil, not_false_eq_true, and_true] at hok2
          obtain ⟨⟨x1, x2, x3, x4, x5, x6⟩, ⟨y1, y2, y3, y4, y5⟩, ⟨c1, c2, c3, c4⟩, ⟨b1, b2, b3⟩, ⟨m1, m2⟩, t1⟩ := hok2
          unfold okClone at hok1
          split at hok1
          case h_2 => cases hok1
          case h_1 i1 r1 d1 c' i2 r2 d2 =>
            simp only [Bool.and_eq_true, Bool.not_eq_true', beq_iff_eq, decide_eq_true_eq] at hok1
            obtain ⟨⟨⟨⟨⟨⟨⟨p1, p2⟩, p3⟩, p4⟩, p5⟩, p6⟩, p7⟩, p8⟩ := hok1
            subst p1; subst p2; subst p3
            split at p7
            case h_2 => cases p7
            case h_1 o1 o2 hr1 =>
              have hr1' : r1 = #[o1, o2] := Array.ext' hr1
              subst hr1'
              simp only [Bool.and_eq_true, beq_iff_eq] at p7
              obtain ⟨⟨⟨q1, q2⟩, q3⟩, q4⟩ := p7
              split at q4
              case h_2 => cases q4
              case h_1 ty y' t2 hop =>
                simp only [Bool.and_eq_true, beq_iff_eq] at q4
                obtain ⟨rfl, q4⟩ := q4
                split at q4
                case h_2 => cases q4
                case h_1 el hu =>
                  refine wp_seq (wp_seq (wp_region ?_))
                  show wpOps P #[o1, o2] _ [0, 1] a w
                  simp only [wpOps]
                  have e1 : execOps (real call loop) [⟨some y', none, .move (.tmp x)⟩] s = some ⟨s.env.set y' (.d (.lst xs)), s.sto⟩ := by
                    simp only [execOps, wanted, doOp, evalOp, ev, hx, putD]
                  refine oper_sound (rest := []) (np := np) hco h q1 e1 _ _ fun s3 a3 w3 L3 Z3 k1 k2 k3 => ?_
                  simp only [execOps] at k3
                  injection k3 with k3
                  subst k3
                  -- the comparison
                  have hy' : (s.env.set y' (.d (.lst xs)))[y']? = some (.d (.lst xs)) := by rw [List.getElem?_set_self l1]
                  have hv := ev_sound k1 (show okX (.tmp y') (.tmp y') = true by simp [okX]) (show ev _ (.tmp y') = some (.d (.lst xs)) from hy')
                  simp only [RV, RD] at hv
                  obtain ⟨A, cap, v1, v2, v3⟩ := hv
                  have v1' : a3.eval (.tmp y') = .slice A xs.length cap := by injection v1
                  have hw : Region.wanted o2 (yielded #[o1, o2] a3.tmps) = true := by
                    unfold Region.wanted
                    cases hg : o2.guard with
                    | none => rfl
                    | some g => rw [hg] at q3; cases q3
                  simp only [List.getElem?_toArray, List.getElem?_cons_succ, List.getElem?_cons_zero]
                  rw [if_pos hw]
                  left
                  refine goes_eqNilS np k1 hop hu v1' _ _ fun u w4 L4 Z4 n1 n2 n3 => ?_
                  rw [q2]
                  have n4 := n1.put (some c') n3
                  simp only [putD] at n4
                  simp only [wpOps, Exit.then]
                  have hcv := ev_sound n4 (show okX (.tmp c') (.tmp c') = true by simp [okX]) (show ev _ (.tmp c') = some (.d (.bool A.isNone)) from List.getElem?_set_self (by simpa using l2))
                  simp only [RV, RD] at hcv
                  refine wp_cond (t := A.isNone) (by injection hcv) ?_
                  cases A with
                  | none =>
                    simp only [Option.isNone_none, if_true]
                    have hxs : xs = [] := by
                      rcases v3 with v3 | ⟨b0, o0, z0, v3, _⟩
                      · exact v3
                      · cases v3
                    subst hxs
                    refine wp_seq (wp_region ?_)
                    have e2 : execOps (real call loop) [⟨some dst, none, .move (.const .emp)⟩] ⟨(s.env.set y' (.d (.lst []))).set c' (.d (.bool (none : Option Addr).isNone)), s.sto⟩ = some ⟨((s.env.set y' (.d (.lst []))).set c' (.d (.bool (none : Option Addr).isNone))).set dst .emp, s.sto⟩ := by
                      simp only [execOps, wanted, doOp, evalOp, ev, putD]
                    refine ops_sound (np := np) hco p8 n4 e2 _ fun a5 w5 L5 Z5 g1 g2 => ?_
                    simp only [Exit.then]
                    refine wp_ret ?_
                    show Q (ofOut .ret) a5 w5
                    have hl5 : (⟨((s.env.set y' (.d (.lst []))).set c' (.d (.bool (none : Option Addr).isNone))).set dst .emp, s.sto⟩ : St).lay t [some (.rows sz [])] = some ⟨((s.env.set y' (.d (.lst []))).set c' (.d (.bool (none : Option Addr).isNone))).set dst .emp, s2.sto⟩ := by
                      simp only [St.lay, hlay]
                    obtain ⟨L6, f1, f2, f3, f4, _⟩ := layNone (np := np) g1 hl5 p4 (fun c => rowOf_RO (own := false) c)
                    have hdst : (((s.env.set y' (.d (.lst []))).set c' (.d (.bool (none : Option Addr).isNone))).set dst .emp)[dst]? = some .emp := List.getElem?_set_self (by simpa using l6)
                    obtain ⟨ht5, hv5⟩ := tmp_of f1 hdst
                    simp only [RV] at hv5
                    have f5 := put_tmp (t := dst) f1 ht5 (arr_of_emp (c := cxOf w5 Z5 L6 s2.sto) (own := false) (sz := sz) f3 f4 hv5)
                    refine hQ a5 w5 L6 Z5 ⟨f5.defers, RVs_le f5.env (by simp) fun i v hi => ?_, f5.obj, f5.injH, f5.dis⟩ (((k2.trans n2).trans g2).trans f2)
                    simp only [List.getElem?_set, List.length_set] at hi ⊢
                    by_cases d0 : dst = i
                    · subst d0; simp only [if_true, l6] at hi ⊢; exact .inr hi
                    · rw [if_neg d0] at hi ⊢
                      rw [if_neg d0]
                      by_cases d1 : t = i
                      · subst d1; simp only [if_true, l5] at hi; injection hi with hi; exact .inl hi.symm
                      rw [if_neg d1] at hi
                      by_cases d2 : m = i
                      · subst d2; simp only [if_true, l4] at hi; injection hi with hi; exact .inl hi.symm
                      rw [if_neg d2] at hi
                      by_cases d3 : b = i
                      · subst d3; simp only [if_true, l3] at hi; injection hi with hi; exact .inl hi.symm
                      rw [if_neg d3] at hi
                      by_cases d4 : c' = i
                      · subst d4; simp only [if_true, l2] at hi; injection hi with hi; exact .inl hi.symm
                      rw [if_neg d4] at hi ⊢
                      by_cases d5 : y' = i
                      · subst d5; simp only [if_true, l1] at hi; injection hi with hi; exact .inl hi.symm
                      rw [if_neg d5] at hi ⊢
                      exact .inr hi
                  | some A =>
                    simp only [Option.isNone_some, Bool.false_eq_true, if_false]
                    refine wp_skip ?_
                    simp only [Exit.then]
                    -- it is not nil
                    cases hdz : dZ zero with
                    | none => rw [hdz] at p6; cases p6
                    | some ds =>
                      rw [hdz] at p6
                      simp only at p6
                      obtain ⟨z, hz⟩ := Option.isSome_iff_exists.1 p6
                      generalize hX : (s.env.set y' (.d (.lst xs))).set c' (.d (.bool (some A).isNone)) = env4 at n4
                      have hlen4 : env4.length = s.env.length := by rw [← hX]; simp
                      have hx4 : env4[x]? = some (.d (.lst xs)) := by rw [← hX, List.getElem?_set_ne (Ne.symm x2), List.getElem?_set_ne (Ne.symm x1)]; exact hx
                      generalize hE1 : env4.set b .emp = env5
                      have hx5 : env5[x]? = some (.d (.lst xs)) := by rw [← hE1, List.getElem?_set_ne (Ne.symm x3)]; exact hx4
                      generalize hE2 : env5.set m (.d (.lst xs)) = env6
                      have hb6 : env6[b]? = some .emp := by rw [← hE2, List.getElem?_set_ne (Ne.symm b1), ← hE1, List.getElem?_set_self (by rw [hlen4]; exact l3)]
                      have hm6 : env6[m]? = some (.d (.lst xs)) := by rw [← hE2, List.getElem?_set_self (by rw [← hE1, List.length_set, hlen4]; exact l4)]
                      have hl6 : (⟨env6, s.sto⟩ : St).lay t [some (.rows sz xs)] = some ⟨env6, s2.sto⟩ := by simp only [St.lay, hlay]
                      generalize hE3 : env6.set t (.arr (t, 0) sz none false) = env7
                      have ht7 : env7[t]? = some (.arr (t, 0) sz none false) := by rw [← hE3, List.getElem?_set_self (by rw [← hE2, List.length_set, ← hE1, List.length_set, hlen4]; exact l5)]
                      have e3 : exec (real call loop) (.seq (.reg [⟨some b, none, .buildSlice sz agg zero 0 []⟩, ⟨some m, none, .move (.tmp x)⟩, ⟨some t, none, .append sz bytes (.tmp b) (.tmp m)⟩, ⟨some dst, none, .move (.tmp t)⟩]) .ret) ⟨env4, s.sto⟩ = some (.ret, ⟨env7.set dst (.arr (t, 0) sz none false), s2.sto⟩) := by
                        have q1 : doOp (real call loop) ⟨env4, s.sto⟩ (some b) (.buildSlice sz agg zero 0 []) = some (.emp, ⟨env4, s.sto⟩) := by
                          simp only [doOp, evElems, p5, if_true, hdz, hz, List.map_nil, fzL, toDs, List.replicate_zero, List.zip_nil_left, fillD]
                        have q2 : doOp (real call loop) ⟨env5, s.sto⟩ (some m) (.move (.tmp x)) = some (.d (.lst xs), ⟨env5, s.sto⟩) := by
                          simp only [doOp, evalOp, ev, hx5]
                        have q3 : doOp (real call loop) ⟨env6, s.sto⟩ (some t) (.append sz bytes (.tmp b) (.tmp m)) = some (.arr (t, 0) sz none false, ⟨env6, s2.sto⟩) := by
                          simp only [doOp, ev, hb6, hm6, content, hfit, hl6]
                        have q4 : doOp (real call loop) ⟨env7, s2.sto⟩ (some dst) (.move (.tmp t)) = some (.arr (t, 0) sz none false, ⟨env7, s2.sto⟩) := by
                          simp only [doOp, evalOp, ev, ht7]
                        simp only [exec, execOps, wanted, q1, putD, hE1, q2, hE2, q3, hE3, q4]
                      refine hy _ _ _ _ _ _ _ n4 e3 fun a' w' L' Z' f1 f2 => ?_
                      refine hQ a' w' L' Z' ⟨f1.defers, RVs_le f1.env ?_ fun i v hi => ?_, f1.obj, f1.injH, f1.dis⟩ ((k2.trans n2).trans f2)
                      · rw [← hE3, ← hE2, ← hE1, ← hX]; simp
                      · rw [← hE3, ← hE2, ← hE1, ← hX]
                        simp only [List.getElem?_set, List.length_set] at hi ⊢
                        by_cases d0 : dst = i
                        · subst d0; simp only [if_true, l6] at hi ⊢; exact .inr hi
                        · rw [if_neg d0] at hi ⊢
                          by_cases d1 : t = i
                          · subst d1; simp only [if_true, l5] at hi; injection hi with hi; exact .inl hi.symm
                          rw [if_neg d1] at hi ⊢
                          by_cases d2 : m = i
                          · subst d2; simp only [if_true, l4] at hi; injection hi with hi; exact .inl hi.symm
                          rw [if_neg d2] at hi ⊢
                          by_cases d3 : b = i
                          · subst d3; simp only [if_true, l3] at hi; injection hi with hi; exact .inl hi.symm
                          rw [if_neg d3] at hi ⊢
                          by_cases d4 : c' = i
                          · subst d4; simp only [if_true, l2] at hi; injection hi with hi; exact .inl hi.symm
                          rw [if_neg d4] at hi ⊢
                          by_cases d5 : y' = i
                          · subst d5; simp only [if_true, l1] at hi; injection hi with hi; exact .inl hi.symm
                          rw [if_neg d5] at hi ⊢
                          exact .inr hi

end
end Go.Vi
