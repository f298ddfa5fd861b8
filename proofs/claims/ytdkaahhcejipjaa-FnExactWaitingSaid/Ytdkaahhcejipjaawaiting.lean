import Derived.Test.YtdkaahhcejipjaaD5
import Derived.Test.YtdkaahhcejipjaaVi32
import Derived.Test.YtdkaahhcejipjaaProg
import Derived.KernelRfl
set_option linter.unusedVariables false
set_option linter.unusedSimpArgs false
open Go Go.Vi Go.Proofs
namespace T1
set_option maxRecDepth 100000
set_option maxHeartbeats 4000000
set_option linter.unusedVariables false
variable {o : Ora} (ho : IsDen vfun vloop o)
include ho
def box8 : D → List D
  | .agg [_, _, _, _, _, _, _, _, .lst b] => b
  | _ => []
theorem w21_end (c0 c1 c3 c4 : D) (ws : List D) (n a : Int)
    (hn : o.len ws = n)
    (h2 : o.cmp .lss n n = false)
    : o.loop 2100 ⟨[.undef, .ptr (1, 0) 0, .undef, .d (.int .i64 a), .d (.int .i64 n), .undef, .undef, .undef, .undef, .undef, .undef, .undef, .undef, .undef, .undef, .undef, .undef, .undef, .undef, .undef, .undef, .undef], [[], [some (.box [.d c0, .d c1, .d (.lst ws), .d c3, .d c4])], [], [], [], [], [], [], [], [], [], [], [], [], [], [], [], [], [], [], [], []]⟩ = some (.exit 0, ⟨[.undef, .undef, .undef, .d (.int .i64 a), .undef, .undef, .undef, .undef, .undef, .undef, .undef, .undef, .undef, .undef, .undef, .undef, .undef, .undef, .undef, .undef, .undef, .undef], [[], [], [], [], [], [], [], [], [], [], [], [], [], [], [], [], [], [], [], [], [], []]⟩) := by
  refine ho.loopR ?_
  cbv
  repeat ((first | rw [hn] | rw [h2]); (try cbv))
theorem w21_go (c0 c1 c3 c4 : D) (ws : List D) (d0 d1 d2 d3 d4 d5 d6 d7 : D) (b : List D) (n k k1 a a1 m : Int) (z : Out × St)
    (hn : o.len ws = n)
    (h2 : o.cmp .lss k n = true)
    (h3 : o.elt ws k = some (.agg [d0, d1, d2, d3, d4, d5, d6, d7, .lst b]))
    (h5 : o.len b = m)
    (h6 : o.ar .add .i64 a m = a1)
    (h4 : o.ar .add .i64 k 1 = k1)
    (ih : o.loop 2100 ⟨[.undef, .ptr (1, 0) 0, .undef, .d (.int .i64 a1), .d (.int .i64 k1), .undef, .undef, .undef, .undef, .undef, .undef, .undef, .undef, .undef, .undef, .undef, .undef, .undef, .undef, .undef, .undef, .undef], [[], [some (.box [.d c0, .d c1, .d (.lst ws), .d c3, .d c4])], [], [], [], [], [], [], [], [], [], [], [], [], [], [], [], [], [], [], [], []]⟩ = some z)
    : o.loop 2100 ⟨[.undef, .ptr (1, 0) 0, .undef, .d (.int .i64 a), .d (.int .i64 k), .undef, .undef, .undef, .undef, .undef, .undef, .undef, .undef, .undef, .undef, .undef, .undef, .undef, .undef, .undef, .undef, .undef], [[], [some (.box [.d c0, .d c1, .d (.lst ws), .d c3, .d c4])], [], [], [], [], [], [], [], [], [], [], [], [], [], [], [], [], [], [], [], []]⟩ = some z := by
  refine ho.loopR ?_
  cbv
  repeat ((first | rw [hn] | rw [h2] | rw [h3] | rw [h5] | rw [h6] | rw [h4] | exact ih); (try cbv))
theorem w21_call (c0 c1 c3 c4 : D) (ws : List D) (v : Int)
    (l : o.loop 2100 ⟨[.undef, .ptr (1, 0) 0, .undef, .d (.int .i64 0), .d (.int .i64 0), .undef, .undef, .undef, .undef, .undef, .undef, .undef, .undef, .undef, .undef, .undef, .undef, .undef, .undef, .undef, .undef, .undef], [[], [some (.box [.d c0, .d c1, .d (.lst ws), .d c3, .d c4])], [], [], [], [], [], [], [], [], [], [], [], [], [], [], [], [], [], [], [], []]⟩ = some (.exit 0, ⟨[.undef, .undef, .undef, .d (.int .i64 v), .undef, .undef, .undef, .undef, .undef, .undef, .undef, .undef, .undef, .undef, .undef, .undef, .undef, .undef, .undef, .undef, .undef, .undef], [[], [], [], [], [], [], [], [], [], [], [], [], [], [], [], [], [], [], [], [], [], []]⟩))
    : o.call 21 [.agg [.d c0, .d c1, .d (.lst ws), .d c3, .d c4]] [] = some ⟨.d (.int .i64 v), [], []⟩ := by
  refine ho.callR ?_
  cbv
  repeat ((first | rw [l]); (try cbv))
theorem w22_end (ws : List D) (n a : Int)
    (h2 : o.cmp .lss n n = false)
    : o.loop 2200 ⟨[.undef, .undef, .undef, .d (.int .i64 a), .undef, .undef, .undef, .d (.lst ws), .d (.int .i64 n), .d (.int .i64 n), .undef, .undef, .undef, .undef, .undef, .undef, .undef, .undef, .undef, .undef], [[], [], [], [], [], [], [], [], [], [], [], [], [], [], [], [], [], [], [], []]⟩ = some (.exit 0, ⟨[.undef, .undef, .undef, .d (.int .i64 a), .undef, .undef, .undef, .undef, .undef, .undef, .undef, .undef, .undef, .undef, .undef, .undef, .undef, .undef, .undef, .undef], [[], [], [], [], [], [], [], [], [], [], [], [], [], [], [], [], [], [], [], []]⟩) := by
  refine ho.loopR ?_
  cbv
  repeat ((first | rw [h2]); (try cbv))
theorem w22_go (ws : List D) (d0 d1 d2 d3 d4 d5 d6 d7 : D) (b : List D) (n k k1 a a1 m : Int) (z : Out × St)
    (h2 : o.cmp .lss k n = true)
    (h3 : o.elt ws k = some (.agg [d0, d1, d2, d3, d4, d5, d6, d7, .lst b]))
    (h5 : o.len b = m)
    (h6 : o.ar .add .i64 a m = a1)
    (h4 : o.ar .add .i64 k 1 = k1)
    (ih : o.loop 2200 ⟨[.undef, .undef, .undef, .d (.int .i64 a1), .undef, .undef, .undef, .d (.lst ws), .d (.int .i64 n), .d (.int .i64 k1), .undef, .undef, .undef, .undef, .undef, .undef, .undef, .undef, .undef, .undef], [[], [], [], [], [], [], [], [], [], [], [], [], [], [], [], [], [], [], [], []]⟩ = some z)
    : o.loop 2200 ⟨[.undef, .undef, .undef, .d (.int .i64 a), .undef, .undef, .undef, .d (.lst ws), .d (.int .i64 n), .d (.int .i64 k), .undef, .undef, .undef, .undef, .undef, .undef, .undef, .undef, .undef, .undef], [[], [], [], [], [], [], [], [], [], [], [], [], [], [], [], [], [], [], [], []]⟩ = some z := by
  refine ho.loopR ?_
  cbv
  repeat ((first | rw [h2] | rw [h3] | rw [h5] | rw [h6] | rw [h4] | exact ih); (try cbv))
theorem w22_call (c0 c1 c3 c4 : D) (ws : List D) (n v : Int)
    (hn : o.len ws = n)
    (l : o.loop 2200 ⟨[.undef, .undef, .undef, .d (.int .i64 0), .undef, .undef, .undef, .d (.lst ws), .d (.int .i64 n), .d (.int .i64 0), .undef, .undef, .undef, .undef, .undef, .undef, .undef, .undef, .undef, .undef], [[], [], [], [], [], [], [], [], [], [], [], [], [], [], [], [], [], [], [], []]⟩ = some (.exit 0, ⟨[.undef, .undef, .undef, .d (.int .i64 v), .undef, .undef, .undef, .undef, .undef, .undef, .undef, .undef, .undef, .undef, .undef, .undef, .undef, .undef, .undef, .undef], [[], [], [], [], [], [], [], [], [], [], [], [], [], [], [], [], [], [], [], []]⟩))
    : o.call 22 [.agg [.d c0, .d c1, .d (.lst ws), .d c3, .d c4]] [] = some ⟨.d (.int .i64 v), [], []⟩ := by
  refine ho.callR ?_
  cbv
  repeat ((first | rw [hn] | rw [l]); (try cbv))
/-- Both count what waits. -/
theorem waiting_both (c0 c1 c3 c4 : D) (ws : List D) (hm : ((ws.length : Nat) : Int) ≤ 9223372036854775807) (hx : ∀ x ∈ ws, ∃ d0 d1 d2 d3 d4 d5 d6 d7 b, x = .agg [d0, d1, d2, d3, d4, d5, d6, d7, .lst b]) :
    ∃ v, o.call 21 [.agg [.d c0, .d c1, .d (.lst ws), .d c3, .d c4]] [] = some ⟨.d (.int .i64 v), [], []⟩ ∧ o.call 22 [.agg [.d c0, .d c1, .d (.lst ws), .d c3, .d c4]] [] = some ⟨.d (.int .i64 v), [], []⟩ := by
  have hn := ho.len ws
  generalize hN : ((ws.length : Nat) : Int) = N at hn hm
  let f : Int → D → Except Empty Int := fun a x => .ok (o.ar .add .i64 a (o.len (box8 x)))
  obtain ⟨v, hv⟩ : ∃ v, foldE f 0 ws = .ok v := by
    cases hf : foldE f 0 ws with
    | ok v => exact ⟨v, rfl⟩
    | error e => exact e.elim
  have l1 := loop_list (o := o) 2100 (fun k a => ⟨[.undef, .ptr (1, 0) 0, .undef, .d (.int .i64 a), .d (.int .i64 k), .undef, .undef, .undef, .undef, .undef, .undef, .undef, .undef, .undef, .undef, .undef, .undef, .undef, .undef, .undef, .undef, .undef], [[], [some (.box [.d c0, .d c1, .d (.lst ws), .d c3, .d c4])], [], [], [], [], [], [], [], [], [], [], [], [], [], [], [], [], [], [], [], []]⟩) ws N hN f (fun a => (.exit 0, ⟨[.undef, .undef, .undef, .d (.int .i64 a), .undef, .undef, .undef, .undef, .undef, .undef, .undef, .undef, .undef, .undef, .undef, .undef, .undef, .undef, .undef, .undef, .undef, .undef], [[], [], [], [], [], [], [], [], [], [], [], [], [], [], [], [], [], [], [], [], [], []]⟩)) (fun e => e.elim)
    (fun a => w21_end ho c0 c1 c3 c4 ws N a hn (lt_no ho N))
    (fun k a x a1 h0 h1 hk he z ih => by
      obtain ⟨d0, d1, d2, d3, d4, d5, d6, d7, b, rfl⟩ := hx x (List.mem_of_getElem? hk)
      injection he with he
      exact w21_go ho c0 c1 c3 c4 ws d0 d1 d2 d3 d4 d5 d6 d7 b N k (k + 1) a a1 _ z hn (lt_yes ho h1) (elt_some ho ws k _ h0 hk) rfl he (inc ho h0 h1 hm) ih)
    (fun k a x e _ _ _ _ => e.elim) 0
  have l2 := loop_list (o := o) 2200 (fun k a => ⟨[.undef, .undef, .undef, .d (.int .i64 a), .undef, .undef, .undef, .d (.lst ws), .d (.int .i64 N), .d (.int .i64 k), .undef, .undef, .undef, .undef, .undef, .undef, .undef, .undef, .undef, .undef], [[], [], [], [], [], [], [], [], [], [], [], [], [], [], [], [], [], [], [], []]⟩) ws N hN f (fun a => (.exit 0, ⟨[.undef, .undef, .undef, .d (.int .i64 a), .undef, .undef, .undef, .undef, .undef, .undef, .undef, .undef, .undef, .undef, .undef, .undef, .undef, .undef, .undef, .undef], [[], [], [], [], [], [], [], [], [], [], [], [], [], [], [], [], [], [], [], []]⟩)) (fun e => e.elim)
    (fun a => w22_end ho ws N a (lt_no ho N))
    (fun k a x a1 h0 h1 hk he z ih => by
      obtain ⟨d0, d1, d2, d3, d4, d5, d6, d7, b, rfl⟩ := hx x (List.mem_of_getElem? hk)
      injection he with he
      exact w22_go ho ws d0 d1 d2 d3 d4 d5 d6 d7 b N k (k + 1) a a1 _ z (lt_yes ho h1) (elt_some ho ws k _ h0 hk) rfl he (inc ho h0 h1 hm) ih)
    (fun k a x e _ _ _ _ => e.elim) 0
  unfold foldR at l1 l2
  rw [hv] at l1 l2
  exact ⟨v, w21_call ho c0 c1 c3 c4 ws v l1, w22_call ho c0 c1 c3 c4 ws N v hn l2⟩
theorem waiting_law {n : Nat} {ds : List D} (h : Fits Try.prog n 40 ds) : o.call 5 [.agg (ds.map .d)] [] = some ⟨.d (.bool true), [], []⟩ := by
  refine Waiting_join ho h fun _ => ?_
  cases n with
  | zero => simp [Fits] at h
  | succ n =>
    obtain ⟨c0, c1, c2, c3, c4, rfl, h0, h1, h2, h3, h4⟩ := fits40 h
    obtain ⟨ws, m, em, e, hl, hx⟩ := fits_lst Try.underlying38 h2
    injection e with e
    subst e
    subst em
    refine waiting_both ho c0 c1 c3 c4 ws (by unfold maxLen at hl; omega) fun x hm => ?_
    obtain ⟨f1, f2⟩ := hx x hm
    rw [show aggT Try.prog 114 = true by unfold aggT; rw [Try.underlying114]] at f2
    cases m with
    | zero => simp [Fits] at f1
    | succ m =>
      obtain ⟨d0, d1, d2, d3, d4, d5, d6, d7, d8, e1, g0, g1, g2, g3, g4, g5⟩ := fits114 f1
      obtain ⟨b, _, _, e2, _⟩ := fits_lst Try.underlying91 g5
      injection e2 with e2
      subst e2
      exact ⟨d0, d1, d2, d3, d4, d5, d6, d7, b, by rw [many_agg f2, e1]⟩
end T1
