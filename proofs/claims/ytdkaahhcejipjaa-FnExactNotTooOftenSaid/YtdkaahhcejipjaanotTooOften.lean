import Derived.Test.YtdkaahhcejipjaaD5
import Derived.Test.YtdkaahhcejipjaaVi32
import Derived.Test.YtdkaahhcejipjaaProg
import Derived.KernelRfl
set_option linter.unusedVariables false
set_option linter.unusedSimpArgs false
open Go Go.Vi Go.Proofs
namespace T1
set_option maxRecDepth 100000
set_option maxHeartbeats 4000000
set_option linter.unusedVariables false
/-- One more that is later than this. -/
def late (o : Ora) (nm a : Int) : D → Int
  | .int _ t => match o.cmp .gtr t nm with
    | true => o.ar .add .i64 a 1
    | false => a
  | _ => a
/-- One overseer, restarted not too often. -/
def calm (o : Ora) (now : Int) : D → Bool
  | .agg [_, .int _ mr, .int _ mt, _, _, .lst ts, _] => match decide (0 ≤ now ∧ now ≤ 100000000), decide (1 ≤ mt ∧ mt ≤ 1000) with
    | true, true => !o.cmp .gtr (ts.foldl (late o (o.ar .sub .i64 now mt)) 0) mr
    | _, _ => false
  | _ => true
theorem foldE_ok {α ε : Type} (g : α → D → α) : ∀ (xs : List D) (a : α), foldE (ε := ε) (fun a x => .ok (g a x)) a xs = .ok (xs.foldl g a)
  | [], _ => rfl
  | x :: xs, a => by simp only [foldE, List.foldl_cons]; exact foldE_ok g xs (g a x)
variable {o : Ora} (ho : IsDen vfun vloop o)
include ho
theorem in34_lo (x a b : Int)
    (h : o.cmp .geq x a = false)
    : o.call 34 [.d (.int .i64 x), .d (.int .i64 a), .d (.int .i64 b)] [] = some ⟨.d (.bool false), [], []⟩ := by
  refine ho.callR ?_
  cbv
  repeat ((first | rw [h]); (try cbv))
theorem in34_hi (x a b : Int) (v : Bool)
    (h : o.cmp .geq x a = true)
    (h2 : o.cmp .leq x b = v)
    : o.call 34 [.d (.int .i64 x), .d (.int .i64 a), .d (.int .i64 b)] [] = some ⟨.d (.bool v), [], []⟩ := by
  refine ho.callR ?_
  cbv
  repeat ((first | rw [h] | rw [h2]); (try cbv))
theorem in34 (x a b : Int) : o.call 34 [.d (.int .i64 x), .d (.int .i64 a), .d (.int .i64 b)] [] = some ⟨.d (.bool (decide (a ≤ x ∧ x ≤ b))), [], []⟩ := by
  by_cases h : a ≤ x
  · have := in34_hi ho x a b (decide (x ≤ b)) (by rw [ho.cmp]; simp [cmpI, h]) (by rw [ho.cmp]; simp [cmpI])
    simpa [h] using this
  · have := in34_lo ho x a b (by rw [ho.cmp]; simp [cmpI]; omega)
    simpa [h] using this
theorem in38_lo (x a b : Int)
    (h : o.cmp .geq x a = false)
    : o.call 38 [.d (.int .i64 x), .d (.int .i64 a), .d (.int .i64 b)] [] = some ⟨.d (.bool false), [], []⟩ := by
  refine ho.callR ?_
  cbv
  repeat ((first | rw [h]); (try cbv))
theorem in38_hi (x a b : Int) (v : Bool)
    (h : o.cmp .geq x a = true)
    (h2 : o.cmp .leq x b = v)
    : o.call 38 [.d (.int .i64 x), .d (.int .i64 a), .d (.int .i64 b)] [] = some ⟨.d (.bool v), [], []⟩ := by
  refine ho.callR ?_
  cbv
  repeat ((first | rw [h] | rw [h2]); (try cbv))
theorem in38 (x a b : Int) : o.call 38 [.d (.int .i64 x), .d (.int .i64 a), .d (.int .i64 b)] [] = some ⟨.d (.bool (decide (a ≤ x ∧ x ≤ b))), [], []⟩ := by
  by_cases h : a ≤ x
  · have := in38_hi ho x a b (decide (x ≤ b)) (by rw [ho.cmp]; simp [cmpI, h]) (by rw [ho.cmp]; simp [cmpI])
    simpa [h] using this
  · have := in38_lo ho x a b (by rw [ho.cmp]; simp [cmpI]; omega)
    simpa [h] using this
theorem t23_end (c0 c2 c3 : D) (ws : List D) (now : Int) (d0 d3 d4 d6 : D) (mr mt : Int) (ts : List D) (j tn a : Int)
    (hn : o.len ts = tn)
    (h2 : o.cmp .lss tn tn = false)
    : o.loop 2300 ⟨[.undef, .ptr (1, 0) 0, .undef, .d (.int .i64 j), .ptr (4, 0) 0, .d (.int .i64 a), .d (.int .i64 tn), .undef, .undef, .undef, .undef, .undef, .undef, .undef, .undef, .undef, .undef, .undef, .undef, .undef, .undef, .undef, .undef, .undef, .undef, .undef, .undef, .undef, .undef, .undef, .undef, .undef, .undef, .undef, .undef, .undef, .undef, .undef, .undef, .undef, .undef, .undef, .undef, .undef, .undef, .undef, .undef, .undef, .undef, .undef, .undef, .undef, .undef], [[], [some (.box [.d c0, .d (.lst ws), .d c2, .d c3, .d (.int .i64 now)])], [], [], [some (.box [.d d0, .d (.int .i64 mr), .d (.int .i64 mt), .d d3, .d d4, .d (.lst ts), .d d6])], [], [], [], [], [], [], [], [], [], [], [], [], [], [], [], [], [], [], [], [], [], [], [], [], [], [], [], [], [], [], [], [], [], [], [], [], [], [], [], [], [], [], [], [], [], [], [], []]⟩ = some (.exit 2, ⟨[.undef, .ptr (1, 0) 0, .undef, .d (.int .i64 j), .ptr (4, 0) 0, .d (.int .i64 a), .undef, .undef, .undef, .undef, .undef, .undef, .undef, .undef, .undef, .undef, .undef, .undef, .undef, .undef, .undef, .undef, .undef, .undef, .undef, .undef, .undef, .undef, .undef, .undef, .undef, .undef, .undef, .undef, .undef, .undef, .undef, .undef, .undef, .undef, .undef, .undef, .undef, .undef, .undef, .undef, .undef, .undef, .undef, .undef, .undef, .undef, .undef], [[], [some (.box [.d c0, .d (.lst ws), .d c2, .d c3, .d (.int .i64 now)])], [], [], [some (.box [.d d0, .d (.int .i64 mr), .d (.int .i64 mt), .d d3, .d d4, .d (.lst ts), .d d6])], [], [], [], [], [], [], [], [], [], [], [], [], [], [], [], [], [], [], [], [], [], [], [], [], [], [], [], [], [], [], [], [], [], [], [], [], [], [], [], [], [], [], [], [], [], [], [], []]⟩) := by
  refine ho.loopR ?_
  cbv
  repeat ((first | rw [hn] | rw [h2]); (try cbv))
theorem t23_yes (c0 c2 c3 : D) (ws : List D) (now : Int) (d0 d3 d4 d6 : D) (mr mt : Int) (ts : List D) (j tn t nm k k1 a a1 : Int) (z : Out × St)
    (hn : o.len ts = tn)
    (h2 : o.cmp .lss k tn = true)
    (h3 : o.elt ts k = some (.int .i64 t))
    (h5 : o.ar .sub .i64 now mt = nm)
    (h6 : o.cmp .gtr t nm = true)
    (h4 : o.ar .add .i64 k 1 = k1)
    (h7 : o.ar .add .i64 a 1 = a1)
    (ih : o.loop 2300 ⟨[.undef, .ptr (1, 0) 0, .undef, .d (.int .i64 j), .ptr (4, 0) 0, .d (.int .i64 a1), .d (.int .i64 k1), .undef, .undef, .undef, .undef, .undef, .undef, .undef, .undef, .undef, .undef, .undef, .undef, .undef, .undef, .undef, .undef, .undef, .undef, .undef, .undef, .undef, .undef, .undef, .undef, .undef, .undef, .undef, .undef, .undef, .undef, .undef, .undef, .undef, .undef, .undef, .undef, .undef, .undef, .undef, .undef, .undef, .undef, .undef, .undef, .undef, .undef], [[], [some (.box [.d c0, .d (.lst ws), .d c2, .d c3, .d (.int .i64 now)])], [], [], [some (.box [.d d0, .d (.int .i64 mr), .d (.int .i64 mt), .d d3, .d d4, .d (.lst ts), .d d6])], [], [], [], [], [], [], [], [], [], [], [], [], [], [], [], [], [], [], [], [], [], [], [], [], [], [], [], [], [], [], [], [], [], [], [], [], [], [], [], [], [], [], [], [], [], [], [], []]⟩ = some z)
    : o.loop 2300 ⟨[.undef, .ptr (1, 0) 0, .undef, .d (.int .i64 j), .ptr (4, 0) 0, .d (.int .i64 a), .d (.int .i64 k), .undef, .undef, .undef, .undef, .undef, .undef, .undef, .undef, .undef, .undef, .undef, .undef, .undef, .undef, .undef, .undef, .undef, .undef, .undef, .undef, .undef, .undef, .undef, .undef, .undef, .undef, .undef, .undef, .undef, .undef, .undef, .undef, .undef, .undef, .undef, .undef, .undef, .undef, .undef, .undef, .undef, .undef, .undef, .undef, .undef, .undef], [[], [some (.box [.d c0, .d (.lst ws), .d c2, .d c3, .d (.int .i64 now)])], [], [], [some (.box [.d d0, .d (.int .i64 mr), .d (.int .i64 mt), .d d3, .d d4, .d (.lst ts), .d d6])], [], [], [], [], [], [], [], [], [], [], [], [], [], [], [], [], [], [], [], [], [], [], [], [], [], [], [], [], [], [], [], [], [], [], [], [], [], [], [], [], [], [], [], [], [], [], [], []]⟩ = some z := by
  refine ho.loopR ?_
  cbv
  repeat ((first | rw [hn] | rw [h2] | rw [h3] | rw [h5] | rw [h6] | rw [h4] | rw [h7] | exact ih); (try cbv))
theorem t23_no (c0 c2 c3 : D) (ws : List D) (now : Int) (d0 d3 d4 d6 : D) (mr mt : Int) (ts : List D) (j tn t nm k k1 a : Int) (z : Out × St)
    (hn : o.len ts = tn)
    (h2 : o.cmp .lss k tn = true)
    (h3 : o.elt ts k = some (.int .i64 t))
    (h5 : o.ar .sub .i64 now mt = nm)
    (h6 : o.cmp .gtr t nm = false)
    (h4 : o.ar .add .i64 k 1 = k1)
    (ih : o.loop 2300 ⟨[.undef, .ptr (1, 0) 0, .undef, .d (.int .i64 j), .ptr (4, 0) 0, .d (.int .i64 a), .d (.int .i64 k1), .undef, .undef, .undef, .undef, .undef, .undef, .undef, .undef, .undef, .undef, .undef, .undef, .undef, .undef, .undef, .undef, .undef, .undef, .undef, .undef, .undef, .undef, .undef, .undef, .undef, .undef, .undef, .undef, .undef, .undef, .undef, .undef, .undef, .undef, .undef, .undef, .undef, .undef, .undef, .undef, .undef, .undef, .undef, .undef, .undef, .undef], [[], [some (.box [.d c0, .d (.lst ws), .d c2, .d c3, .d (.int .i64 now)])], [], [], [some (.box [.d d0, .d (.int .i64 mr), .d (.int .i64 mt), .d d3, .d d4, .d (.lst ts), .d d6])], [], [], [], [], [], [], [], [], [], [], [], [], [], [], [], [], [], [], [], [], [], [], [], [], [], [], [], [], [], [], [], [], [], [], [], [], [], [], [], [], [], [], [], [], [], [], [], []]⟩ = some z)
    : o.loop 2300 ⟨[.undef, .ptr (1, 0) 0, .undef, .d (.int .i64 j), .ptr (4, 0) 0, .d (.int .i64 a), .d (.int .i64 k), .undef, .undef, .undef, .undef, .undef, .undef, .undef, .undef, .undef, .undef, .undef, .undef, .undef, .undef, .undef, .undef, .undef, .undef, .undef, .undef, .undef, .undef, .undef, .undef, .undef, .undef, .undef, .undef, .undef, .undef, .undef, .undef, .undef, .undef, .undef, .undef, .undef, .undef, .undef, .undef, .undef, .undef, .undef, .undef, .undef, .undef], [[], [some (.box [.d c0, .d (.lst ws), .d c2, .d c3, .d (.int .i64 now)])], [], [], [some (.box [.d d0, .d (.int .i64 mr), .d (.int .i64 mt), .d d3, .d d4, .d (.lst ts), .d d6])], [], [], [], [], [], [], [], [], [], [], [], [], [], [], [], [], [], [], [], [], [], [], [], [], [], [], [], [], [], [], [], [], [], [], [], [], [], [], [], [], [], [], [], [], [], [], [], []]⟩ = some z := by
  refine ho.loopR ?_
  cbv
  repeat ((first | rw [hn] | rw [h2] | rw [h3] | rw [h5] | rw [h6] | rw [h4] | exact ih); (try cbv))
theorem t24_yes (c0 c2 c3 : D) (ws : List D) (now : Int) (d0 d3 d4 d6 : D) (mr mt : Int) (ts : List D) (j n tn t nm k k1 a a1 : Int) (z : Out × St)
    (h2 : o.cmp .lss k tn = true)
    (h3 : o.elt ts k = some (.int .i64 t))
    (h5 : o.ar .sub .i64 now mt = nm)
    (h6 : o.cmp .gtr t nm = true)
    (h4 : o.ar .add .i64 k 1 = k1)
    (h7 : o.ar .add .i64 a 1 = a1)
    (ih : o.loop 2400 ⟨[.undef, .ptr (1, 0) 0, .undef, .undef, .ptr (4, 0) 0, .d (.int .i64 a1), .undef, .undef, .undef, .d (.lst ws), .d (.int .i64 n), .d (.int .i64 j), .undef, .undef, .undef, .undef, .undef, .undef, .undef, .undef, .undef, .undef, .undef, .undef, .undef, .undef, .d (.lst ts), .d (.int .i64 tn), .d (.int .i64 k1), .undef, .undef, .undef, .undef, .undef, .undef, .undef, .undef, .undef, .undef, .undef, .undef, .undef, .undef, .undef, .undef, .undef, .undef], [[], [some (.box [.d c0, .d (.lst ws), .d c2, .d c3, .d (.int .i64 now)])], [], [], [some (.box [.d d0, .d (.int .i64 mr), .d (.int .i64 mt), .d d3, .d d4, .d (.lst ts), .d d6])], [], [], [], [], [], [], [], [], [], [], [], [], [], [], [], [], [], [], [], [], [], [], [], [], [], [], [], [], [], [], [], [], [], [], [], [], [], [], [], [], [], []]⟩ = some z)
    : o.loop 2400 ⟨[.undef, .ptr (1, 0) 0, .undef, .undef, .ptr (4, 0) 0, .d (.int .i64 a), .undef, .undef, .undef, .d (.lst ws), .d (.int .i64 n), .d (.int .i64 j), .undef, .undef, .undef, .undef, .undef, .undef, .undef, .undef, .undef, .undef, .undef, .undef, .undef, .undef, .d (.lst ts), .d (.int .i64 tn), .d (.int .i64 k), .undef, .undef, .undef, .undef, .undef, .undef, .undef, .undef, .undef, .undef, .undef, .undef, .undef, .undef, .undef, .undef, .undef, .undef], [[], [some (.box [.d c0, .d (.lst ws), .d c2, .d c3, .d (.int .i64 now)])], [], [], [some (.box [.d d0, .d (.int .i64 mr), .d (.int .i64 mt), .d d3, .d d4, .d (.lst ts), .d d6])], [], [], [], [], [], [], [], [], [], [], [], [], [], [], [], [], [], [], [], [], [], [], [], [], [], [], [], [], [], [], [], [], [], [], [], [], [], [], [], [], [], []]⟩ = some z := by
  refine ho.loopR ?_
  cbv
  repeat ((first | rw [h2] | rw [h3] | rw [h5] | rw [h6] | rw [h4] | rw [h7] | exact ih); (try cbv))
theorem t24_no (c0 c2 c3 : D) (ws : List D) (now : Int) (d0 d3 d4 d6 : D) (mr mt : Int) (ts : List D) (j n tn t nm k k1 a : Int) (z : Out × St)
    (h2 : o.cmp .lss k tn = true)
    (h3 : o.elt ts k = some (.int .i64 t))
    (h5 : o.ar .sub .i64 now mt = nm)
    (h6 : o.cmp .gtr t nm = false)
    (h4 : o.ar .add .i64 k 1 = k1)
    (ih : o.loop 2400 ⟨[.undef, .ptr (1, 0) 0, .undef, .undef, .ptr (4, 0) 0, .d (.int .i64 a), .undef, .undef, .undef, .d (.lst ws), .d (.int .i64 n), .d (.int .i64 j), .undef, .undef, .undef, .undef, .undef, .undef, .undef, .undef, .undef, .undef, .undef, .undef, .undef, .undef, .d (.lst ts), .d (.int .i64 tn), .d (.int .i64 k1), .undef, .undef, .undef, .undef, .undef, .undef, .undef, .undef, .undef, .undef, .undef, .undef, .undef, .undef, .undef, .undef, .undef, .undef], [[], [some (.box [.d c0, .d (.lst ws), .d c2, .d c3, .d (.int .i64 now)])], [], [], [some (.box [.d d0, .d (.int .i64 mr), .d (.int .i64 mt), .d d3, .d d4, .d (.lst ts), .d d6])], [], [], [], [], [], [], [], [], [], [], [], [], [], [], [], [], [], [], [], [], [], [], [], [], [], [], [], [], [], [], [], [], [], [], [], [], [], [], [], [], [], []]⟩ = some z)
    : o.loop 2400 ⟨[.undef, .ptr (1, 0) 0, .undef, .undef, .ptr (4, 0) 0, .d (.int .i64 a), .undef, .undef, .undef, .d (.lst ws), .d (.int .i64 n), .d (.int .i64 j), .undef, .undef, .undef, .undef, .undef, .undef, .undef, .undef, .undef, .undef, .undef, .undef, .undef, .undef, .d (.lst ts), .d (.int .i64 tn), .d (.int .i64 k), .undef, .undef, .undef, .undef, .undef, .undef, .undef, .undef, .undef, .undef, .undef, .undef, .undef, .undef, .undef, .undef, .undef, .undef], [[], [some (.box [.d c0, .d (.lst ws), .d c2, .d c3, .d (.int .i64 now)])], [], [], [some (.box [.d d0, .d (.int .i64 mr), .d (.int .i64 mt), .d d3, .d d4, .d (.lst ts), .d d6])], [], [], [], [], [], [], [], [], [], [], [], [], [], [], [], [], [], [], [], [], [], [], [], [], [], [], [], [], [], [], [], [], [], [], [], [], [], [], [], [], [], []]⟩ = some z := by
  refine ho.loopR ?_
  cbv
  repeat ((first | rw [h2] | rw [h3] | rw [h5] | rw [h6] | rw [h4] | exact ih); (try cbv))
theorem t24_end (c0 c2 c3 : D) (ws : List D) (now : Int) (d0 d3 d4 d6 : D) (mr mt : Int) (ts : List D) (j n tn a : Int)
    (h2 : o.cmp .lss tn tn = false)
    : o.loop 2400 ⟨[.undef, .ptr (1, 0) 0, .undef, .undef, .ptr (4, 0) 0, .d (.int .i64 a), .undef, .undef, .undef, .d (.lst ws), .d (.int .i64 n), .d (.int .i64 j), .undef, .undef, .undef, .undef, .undef, .undef, .undef, .undef, .undef, .undef, .undef, .undef, .undef, .undef, .d (.lst ts), .d (.int .i64 tn), .d (.int .i64 tn), .undef, .undef, .undef, .undef, .undef, .undef, .undef, .undef, .undef, .undef, .undef, .undef, .undef, .undef, .undef, .undef, .undef, .undef], [[], [some (.box [.d c0, .d (.lst ws), .d c2, .d c3, .d (.int .i64 now)])], [], [], [some (.box [.d d0, .d (.int .i64 mr), .d (.int .i64 mt), .d d3, .d d4, .d (.lst ts), .d d6])], [], [], [], [], [], [], [], [], [], [], [], [], [], [], [], [], [], [], [], [], [], [], [], [], [], [], [], [], [], [], [], [], [], [], [], [], [], [], [], [], [], []]⟩ = some (.exit 2, ⟨[.undef, .ptr (1, 0) 0, .undef, .undef, .ptr (4, 0) 0, .d (.int .i64 a), .undef, .undef, .undef, .d (.lst ws), .d (.int .i64 n), .d (.int .i64 j), .undef, .undef, .undef, .undef, .undef, .undef, .undef, .undef, .undef, .undef, .undef, .undef, .undef, .undef, .undef, .undef, .undef, .undef, .undef, .undef, .undef, .undef, .undef, .undef, .undef, .undef, .undef, .undef, .undef, .undef, .undef, .undef, .undef, .undef, .undef], [[], [some (.box [.d c0, .d (.lst ws), .d c2, .d c3, .d (.int .i64 now)])], [], [], [some (.box [.d d0, .d (.int .i64 mr), .d (.int .i64 mt), .d d3, .d d4, .d (.lst ts), .d d6])], [], [], [], [], [], [], [], [], [], [], [], [], [], [], [], [], [], [], [], [], [], [], [], [], [], [], [], [], [], [], [], [], [], [], [], [], [], [], [], [], [], []]⟩) := by
  refine ho.loopR ?_
  cbv
  repeat ((first | rw [h2]); (try cbv))
theorem s23_end (c0 c2 c3 : D) (ws : List D) (now : Int) (n : Int)
    (hn : o.len ws = n)
    (h2 : o.cmp .lss n n = false)
    : o.loop 2301 ⟨[.undef, .ptr (1, 0) 0, .undef, .d (.int .i64 n), .undef, .undef, .undef, .undef, .undef, .undef, .undef, .undef, .undef, .undef, .undef, .undef, .undef, .undef, .undef, .undef, .undef, .undef, .undef, .undef, .undef, .undef, .undef, .undef, .undef, .undef, .undef, .undef, .undef, .undef, .undef, .undef, .undef, .undef, .undef, .undef, .undef, .undef, .undef, .undef, .undef, .undef, .undef, .undef, .undef, .undef, .undef, .undef, .undef], [[], [some (.box [.d c0, .d (.lst ws), .d c2, .d c3, .d (.int .i64 now)])], [], [], [], [], [], [], [], [], [], [], [], [], [], [], [], [], [], [], [], [], [], [], [], [], [], [], [], [], [], [], [], [], [], [], [], [], [], [], [], [], [], [], [], [], [], [], [], [], [], [], []]⟩ = some (.exit 0, ⟨[.undef, .undef, .undef, .undef, .undef, .undef, .undef, .undef, .undef, .undef, .undef, .undef, .undef, .undef, .undef, .undef, .undef, .undef, .undef, .undef, .undef, .undef, .undef, .undef, .undef, .undef, .undef, .undef, .undef, .undef, .undef, .undef, .undef, .undef, .undef, .undef, .undef, .undef, .undef, .undef, .undef, .undef, .undef, .undef, .undef, .undef, .undef, .undef, .undef, .undef, .undef, .undef, .undef], [[], [], [], [], [], [], [], [], [], [], [], [], [], [], [], [], [], [], [], [], [], [], [], [], [], [], [], [], [], [], [], [], [], [], [], [], [], [], [], [], [], [], [], [], [], [], [], [], [], [], [], [], []]⟩) := by
  refine ho.loopR ?_
  cbv
  repeat ((first | rw [hn] | rw [h2]); (try cbv))
theorem s24_end (c0 c2 c3 : D) (ws : List D) (now : Int) (n : Int)
    (h2 : o.cmp .lss n n = false)
    : o.loop 2401 ⟨[.undef, .ptr (1, 0) 0, .undef, .undef, .undef, .undef, .undef, .undef, .undef, .d (.lst ws), .d (.int .i64 n), .d (.int .i64 n), .undef, .undef, .undef, .undef, .undef, .undef, .undef, .undef, .undef, .undef, .undef, .undef, .undef, .undef, .undef, .undef, .undef, .undef, .undef, .undef, .undef, .undef, .undef, .undef, .undef, .undef, .undef, .undef, .undef, .undef, .undef, .undef, .undef, .undef, .undef], [[], [some (.box [.d c0, .d (.lst ws), .d c2, .d c3, .d (.int .i64 now)])], [], [], [], [], [], [], [], [], [], [], [], [], [], [], [], [], [], [], [], [], [], [], [], [], [], [], [], [], [], [], [], [], [], [], [], [], [], [], [], [], [], [], [], [], []]⟩ = some (.exit 0, ⟨[.undef, .undef, .undef, .undef, .undef, .undef, .undef, .undef, .undef, .undef, .undef, .undef, .undef, .undef, .undef, .undef, .undef, .undef, .undef, .undef, .undef, .undef, .undef, .undef, .undef, .undef, .undef, .undef, .undef, .undef, .undef, .undef, .undef, .undef, .undef, .undef, .undef, .undef, .undef, .undef, .undef, .undef, .undef, .undef, .undef, .undef, .undef], [[], [], [], [], [], [], [], [], [], [], [], [], [], [], [], [], [], [], [], [], [], [], [], [], [], [], [], [], [], [], [], [], [], [], [], [], [], [], [], [], [], [], [], [], [], [], []]⟩) := by
  refine ho.loopR ?_
  cbv
  repeat ((first | rw [h2]); (try cbv))
theorem s23_out1 (c0 c2 c3 : D) (ws : List D) (now : Int) (d0 d3 d4 d6 : D) (mr mt : Int) (ts : List D) (j n : Int) (z : Out × St)
    (hn : o.len ws = n)
    (h2 : o.cmp .lss j n = true)
    (h3 : o.elt ws j = some (.agg [d0, .int .i64 mr, .int .i64 mt, d3, d4, .lst ts, d6]))
    (i1 : o.call 34 [.d (.int .i64 now), .d (.int .i64 0), .d (.int .i64 100000000)] [] = some ⟨.d (.bool false), [], []⟩)
    : o.loop 2301 ⟨[.undef, .ptr (1, 0) 0, .undef, .d (.int .i64 j), .undef, .undef, .undef, .undef, .undef, .undef, .undef, .undef, .undef, .undef, .undef, .undef, .undef, .undef, .undef, .undef, .undef, .undef, .undef, .undef, .undef, .undef, .undef, .undef, .undef, .undef, .undef, .undef, .undef, .undef, .undef, .undef, .undef, .undef, .undef, .undef, .undef, .undef, .undef, .undef, .undef, .undef, .undef, .undef, .undef, .undef, .undef, .undef, .undef], [[], [some (.box [.d c0, .d (.lst ws), .d c2, .d c3, .d (.int .i64 now)])], [], [], [], [], [], [], [], [], [], [], [], [], [], [], [], [], [], [], [], [], [], [], [], [], [], [], [], [], [], [], [], [], [], [], [], [], [], [], [], [], [], [], [], [], [], [], [], [], [], [], []]⟩ = some (.ret, ⟨[.undef, .undef, .d (.bool false), .undef, .undef, .undef, .undef, .undef, .undef, .undef, .undef, .undef, .undef, .undef, .undef, .undef, .undef, .undef, .undef, .undef, .undef, .undef, .undef, .undef, .undef, .undef, .undef, .undef, .undef, .undef, .undef, .undef, .undef, .undef, .undef, .undef, .undef, .undef, .undef, .undef, .undef, .undef, .undef, .undef, .undef, .undef, .undef, .undef, .undef, .undef, .undef, .undef, .undef], [[], [], [], [], [], [], [], [], [], [], [], [], [], [], [], [], [], [], [], [], [], [], [], [], [], [], [], [], [], [], [], [], [], [], [], [], [], [], [], [], [], [], [], [], [], [], [], [], [], [], [], [], []]⟩) := by
  refine ho.loopR ?_
  cbv
  repeat ((first | rw [hn] | rw [h2] | rw [h3] | rw [i1]); (try cbv))
theorem s23_out2 (c0 c2 c3 : D) (ws : List D) (now : Int) (d0 d3 d4 d6 : D) (mr mt : Int) (ts : List D) (j n : Int) (z : Out × St)
    (hn : o.len ws = n)
    (h2 : o.cmp .lss j n = true)
    (h3 : o.elt ws j = some (.agg [d0, .int .i64 mr, .int .i64 mt, d3, d4, .lst ts, d6]))
    (i1 : o.call 34 [.d (.int .i64 now), .d (.int .i64 0), .d (.int .i64 100000000)] [] = some ⟨.d (.bool true), [], []⟩)
    (i2 : o.call 34 [.d (.int .i64 mt), .d (.int .i64 1), .d (.int .i64 1000)] [] = some ⟨.d (.bool false), [], []⟩)
    : o.loop 2301 ⟨[.undef, .ptr (1, 0) 0, .undef, .d (.int .i64 j), .undef, .undef, .undef, .undef, .undef, .undef, .undef, .undef, .undef, .undef, .undef, .undef, .undef, .undef, .undef, .undef, .undef, .undef, .undef, .undef, .undef, .undef, .undef, .undef, .undef, .undef, .undef, .undef, .undef, .undef, .undef, .undef, .undef, .undef, .undef, .undef, .undef, .undef, .undef, .undef, .undef, .undef, .undef, .undef, .undef, .undef, .undef, .undef, .undef], [[], [some (.box [.d c0, .d (.lst ws), .d c2, .d c3, .d (.int .i64 now)])], [], [], [], [], [], [], [], [], [], [], [], [], [], [], [], [], [], [], [], [], [], [], [], [], [], [], [], [], [], [], [], [], [], [], [], [], [], [], [], [], [], [], [], [], [], [], [], [], [], [], []]⟩ = some (.ret, ⟨[.undef, .undef, .d (.bool false), .undef, .undef, .undef, .undef, .undef, .undef, .undef, .undef, .undef, .undef, .undef, .undef, .undef, .undef, .undef, .undef, .undef, .undef, .undef, .undef, .undef, .undef, .undef, .undef, .undef, .undef, .undef, .undef, .undef, .undef, .undef, .undef, .undef, .undef, .undef, .undef, .undef, .undef, .undef, .undef, .undef, .undef, .undef, .undef, .undef, .undef, .undef, .undef, .undef, .undef], [[], [], [], [], [], [], [], [], [], [], [], [], [], [], [], [], [], [], [], [], [], [], [], [], [], [], [], [], [], [], [], [], [], [], [], [], [], [], [], [], [], [], [], [], [], [], [], [], [], [], [], [], []]⟩) := by
  refine ho.loopR ?_
  cbv
  repeat ((first | rw [hn] | rw [h2] | rw [h3] | rw [i1] | rw [i2]); (try cbv))
theorem s23_out3 (c0 c2 c3 : D) (ws : List D) (now : Int) (d0 d3 d4 d6 : D) (mr mt : Int) (ts : List D) (j j1 n tn c : Int) (z : Out × St)
    (hn : o.len ws = n)
    (h2 : o.cmp .lss j n = true)
    (h3 : o.elt ws j = some (.agg [d0, .int .i64 mr, .int .i64 mt, d3, d4, .lst ts, d6]))
    (i1 : o.call 34 [.d (.int .i64 now), .d (.int .i64 0), .d (.int .i64 100000000)] [] = some ⟨.d (.bool true), [], []⟩)
    (i2 : o.call 34 [.d (.int .i64 mt), .d (.int .i64 1), .d (.int .i64 1000)] [] = some ⟨.d (.bool true), [], []⟩)
    (l : o.loop 2300 ⟨[.undef, .ptr (1, 0) 0, .undef, .d (.int .i64 j), .ptr (4, 0) 0, .d (.int .i64 0), .d (.int .i64 0), .undef, .undef, .undef, .undef, .undef, .undef, .undef, .undef, .undef, .undef, .undef, .undef, .undef, .undef, .undef, .undef, .undef, .undef, .undef, .undef, .undef, .undef, .undef, .undef, .undef, .undef, .undef, .undef, .undef, .undef, .undef, .undef, .undef, .undef, .undef, .undef, .undef, .undef, .undef, .undef, .undef, .undef, .undef, .undef, .undef, .undef], [[], [some (.box [.d c0, .d (.lst ws), .d c2, .d c3, .d (.int .i64 now)])], [], [], [some (.box [.d d0, .d (.int .i64 mr), .d (.int .i64 mt), .d d3, .d d4, .d (.lst ts), .d d6])], [], [], [], [], [], [], [], [], [], [], [], [], [], [], [], [], [], [], [], [], [], [], [], [], [], [], [], [], [], [], [], [], [], [], [], [], [], [], [], [], [], [], [], [], [], [], [], []]⟩ = some (.exit 2, ⟨[.undef, .ptr (1, 0) 0, .undef, .d (.int .i64 j), .ptr (4, 0) 0, .d (.int .i64 c), .undef, .undef, .undef, .undef, .undef, .undef, .undef, .undef, .undef, .undef, .undef, .undef, .undef, .undef, .undef, .undef, .undef, .undef, .undef, .undef, .undef, .undef, .undef, .undef, .undef, .undef, .undef, .undef, .undef, .undef, .undef, .undef, .undef, .undef, .undef, .undef, .undef, .undef, .undef, .undef, .undef, .undef, .undef, .undef, .undef, .undef, .undef], [[], [some (.box [.d c0, .d (.lst ws), .d c2, .d c3, .d (.int .i64 now)])], [], [], [some (.box [.d d0, .d (.int .i64 mr), .d (.int .i64 mt), .d d3, .d d4, .d (.lst ts), .d d6])], [], [], [], [], [], [], [], [], [], [], [], [], [], [], [], [], [], [], [], [], [], [], [], [], [], [], [], [], [], [], [], [], [], [], [], [], [], [], [], [], [], [], [], [], [], [], [], []]⟩))
    (g : o.cmp .gtr c mr = true)
    : o.loop 2301 ⟨[.undef, .ptr (1, 0) 0, .undef, .d (.int .i64 j), .undef, .undef, .undef, .undef, .undef, .undef, .undef, .undef, .undef, .undef, .undef, .undef, .undef, .undef, .undef, .undef, .undef, .undef, .undef, .undef, .undef, .undef, .undef, .undef, .undef, .undef, .undef, .undef, .undef, .undef, .undef, .undef, .undef, .undef, .undef, .undef, .undef, .undef, .undef, .undef, .undef, .undef, .undef, .undef, .undef, .undef, .undef, .undef, .undef], [[], [some (.box [.d c0, .d (.lst ws), .d c2, .d c3, .d (.int .i64 now)])], [], [], [], [], [], [], [], [], [], [], [], [], [], [], [], [], [], [], [], [], [], [], [], [], [], [], [], [], [], [], [], [], [], [], [], [], [], [], [], [], [], [], [], [], [], [], [], [], [], [], []]⟩ = some (.ret, ⟨[.undef, .undef, .d (.bool false), .undef, .undef, .undef, .undef, .undef, .undef, .undef, .undef, .undef, .undef, .undef, .undef, .undef, .undef, .undef, .undef, .undef, .undef, .undef, .undef, .undef, .undef, .undef, .undef, .undef, .undef, .undef, .undef, .undef, .undef, .undef, .undef, .undef, .undef, .undef, .undef, .undef, .undef, .undef, .undef, .undef, .undef, .undef, .undef, .undef, .undef, .undef, .undef, .undef, .undef], [[], [], [], [], [], [], [], [], [], [], [], [], [], [], [], [], [], [], [], [], [], [], [], [], [], [], [], [], [], [], [], [], [], [], [], [], [], [], [], [], [], [], [], [], [], [], [], [], [], [], [], [], []]⟩) := by
  refine ho.loopR ?_
  cbv
  repeat ((first | rw [hn] | rw [h2] | rw [h3] | rw [i1] | rw [i2] | rw [l] | rw [g]); (try cbv))
theorem s23_go (c0 c2 c3 : D) (ws : List D) (now : Int) (d0 d3 d4 d6 : D) (mr mt : Int) (ts : List D) (j j1 n tn c : Int) (z : Out × St)
    (hn : o.len ws = n)
    (h2 : o.cmp .lss j n = true)
    (h3 : o.elt ws j = some (.agg [d0, .int .i64 mr, .int .i64 mt, d3, d4, .lst ts, d6]))
    (i1 : o.call 34 [.d (.int .i64 now), .d (.int .i64 0), .d (.int .i64 100000000)] [] = some ⟨.d (.bool true), [], []⟩)
    (i2 : o.call 34 [.d (.int .i64 mt), .d (.int .i64 1), .d (.int .i64 1000)] [] = some ⟨.d (.bool true), [], []⟩)
    (l : o.loop 2300 ⟨[.undef, .ptr (1, 0) 0, .undef, .d (.int .i64 j), .ptr (4, 0) 0, .d (.int .i64 0), .d (.int .i64 0), .undef, .undef, .undef, .undef, .undef, .undef, .undef, .undef, .undef, .undef, .undef, .undef, .undef, .undef, .undef, .undef, .undef, .undef, .undef, .undef, .undef, .undef, .undef, .undef, .undef, .undef, .undef, .undef, .undef, .undef, .undef, .undef, .undef, .undef, .undef, .undef, .undef, .undef, .undef, .undef, .undef, .undef, .undef, .undef, .undef, .undef], [[], [some (.box [.d c0, .d (.lst ws), .d c2, .d c3, .d (.int .i64 now)])], [], [], [some (.box [.d d0, .d (.int .i64 mr), .d (.int .i64 mt), .d d3, .d d4, .d (.lst ts), .d d6])], [], [], [], [], [], [], [], [], [], [], [], [], [], [], [], [], [], [], [], [], [], [], [], [], [], [], [], [], [], [], [], [], [], [], [], [], [], [], [], [], [], [], [], [], [], [], [], []]⟩ = some (.exit 2, ⟨[.undef, .ptr (1, 0) 0, .undef, .d (.int .i64 j), .ptr (4, 0) 0, .d (.int .i64 c), .undef, .undef, .undef, .undef, .undef, .undef, .undef, .undef, .undef, .undef, .undef, .undef, .undef, .undef, .undef, .undef, .undef, .undef, .undef, .undef, .undef, .undef, .undef, .undef, .undef, .undef, .undef, .undef, .undef, .undef, .undef, .undef, .undef, .undef, .undef, .undef, .undef, .undef, .undef, .undef, .undef, .undef, .undef, .undef, .undef, .undef, .undef], [[], [some (.box [.d c0, .d (.lst ws), .d c2, .d c3, .d (.int .i64 now)])], [], [], [some (.box [.d d0, .d (.int .i64 mr), .d (.int .i64 mt), .d d3, .d d4, .d (.lst ts), .d d6])], [], [], [], [], [], [], [], [], [], [], [], [], [], [], [], [], [], [], [], [], [], [], [], [], [], [], [], [], [], [], [], [], [], [], [], [], [], [], [], [], [], [], [], [], [], [], [], []]⟩))
    (g : o.cmp .gtr c mr = false)
    (h4 : o.ar .add .i64 j 1 = j1)
    (ih : o.loop 2301 ⟨[.undef, .ptr (1, 0) 0, .undef, .d (.int .i64 j1), .undef, .undef, .undef, .undef, .undef, .undef, .undef, .undef, .undef, .undef, .undef, .undef, .undef, .undef, .undef, .undef, .undef, .undef, .undef, .undef, .undef, .undef, .undef, .undef, .undef, .undef, .undef, .undef, .undef, .undef, .undef, .undef, .undef, .undef, .undef, .undef, .undef, .undef, .undef, .undef, .undef, .undef, .undef, .undef, .undef, .undef, .undef, .undef, .undef], [[], [some (.box [.d c0, .d (.lst ws), .d c2, .d c3, .d (.int .i64 now)])], [], [], [], [], [], [], [], [], [], [], [], [], [], [], [], [], [], [], [], [], [], [], [], [], [], [], [], [], [], [], [], [], [], [], [], [], [], [], [], [], [], [], [], [], [], [], [], [], [], [], []]⟩ = some z)
    : o.loop 2301 ⟨[.undef, .ptr (1, 0) 0, .undef, .d (.int .i64 j), .undef, .undef, .undef, .undef, .undef, .undef, .undef, .undef, .undef, .undef, .undef, .undef, .undef, .undef, .undef, .undef, .undef, .undef, .undef, .undef, .undef, .undef, .undef, .undef, .undef, .undef, .undef, .undef, .undef, .undef, .undef, .undef, .undef, .undef, .undef, .undef, .undef, .undef, .undef, .undef, .undef, .undef, .undef, .undef, .undef, .undef, .undef, .undef, .undef], [[], [some (.box [.d c0, .d (.lst ws), .d c2, .d c3, .d (.int .i64 now)])], [], [], [], [], [], [], [], [], [], [], [], [], [], [], [], [], [], [], [], [], [], [], [], [], [], [], [], [], [], [], [], [], [], [], [], [], [], [], [], [], [], [], [], [], [], [], [], [], [], [], []]⟩ = some z := by
  refine ho.loopR ?_
  cbv
  repeat ((first | rw [hn] | rw [h2] | rw [h3] | rw [i1] | rw [i2] | rw [l] | rw [g] | rw [h4] | exact ih); (try cbv))
theorem s24_out1 (c0 c2 c3 : D) (ws : List D) (now : Int) (d0 d3 d4 d6 : D) (mr mt : Int) (ts : List D) (j n : Int) (z : Out × St)
    (h2 : o.cmp .lss j n = true)
    (h3 : o.elt ws j = some (.agg [d0, .int .i64 mr, .int .i64 mt, d3, d4, .lst ts, d6]))
    (i1 : o.call 38 [.d (.int .i64 now), .d (.int .i64 0), .d (.int .i64 100000000)] [] = some ⟨.d (.bool false), [], []⟩)
    : o.loop 2401 ⟨[.undef, .ptr (1, 0) 0, .undef, .undef, .undef, .undef, .undef, .undef, .undef, .d (.lst ws), .d (.int .i64 n), .d (.int .i64 j), .undef, .undef, .undef, .undef, .undef, .undef, .undef, .undef, .undef, .undef, .undef, .undef, .undef, .undef, .undef, .undef, .undef, .undef, .undef, .undef, .undef, .undef, .undef, .undef, .undef, .undef, .undef, .undef, .undef, .undef, .undef, .undef, .undef, .undef, .undef], [[], [some (.box [.d c0, .d (.lst ws), .d c2, .d c3, .d (.int .i64 now)])], [], [], [], [], [], [], [], [], [], [], [], [], [], [], [], [], [], [], [], [], [], [], [], [], [], [], [], [], [], [], [], [], [], [], [], [], [], [], [], [], [], [], [], [], []]⟩ = some (.ret, ⟨[.undef, .undef, .d (.bool false), .undef, .undef, .undef, .undef, .undef, .undef, .undef, .undef, .undef, .undef, .undef, .undef, .undef, .undef, .undef, .undef, .undef, .undef, .undef, .undef, .undef, .undef, .undef, .undef, .undef, .undef, .undef, .undef, .undef, .undef, .undef, .undef, .undef, .undef, .undef, .undef, .undef, .undef, .undef, .undef, .undef, .undef, .undef, .undef], [[], [], [], [], [], [], [], [], [], [], [], [], [], [], [], [], [], [], [], [], [], [], [], [], [], [], [], [], [], [], [], [], [], [], [], [], [], [], [], [], [], [], [], [], [], [], []]⟩) := by
  refine ho.loopR ?_
  cbv
  repeat ((first | rw [h2] | rw [h3] | rw [i1]); (try cbv))
theorem s24_out2 (c0 c2 c3 : D) (ws : List D) (now : Int) (d0 d3 d4 d6 : D) (mr mt : Int) (ts : List D) (j n : Int) (z : Out × St)
    (h2 : o.cmp .lss j n = true)
    (h3 : o.elt ws j = some (.agg [d0, .int .i64 mr, .int .i64 mt, d3, d4, .lst ts, d6]))
    (i1 : o.call 38 [.d (.int .i64 now), .d (.int .i64 0), .d (.int .i64 100000000)] [] = some ⟨.d (.bool true), [], []⟩)
    (i2 : o.call 38 [.d (.int .i64 mt), .d (.int .i64 1), .d (.int .i64 1000)] [] = some ⟨.d (.bool false), [], []⟩)
    : o.loop 2401 ⟨[.undef, .ptr (1, 0) 0, .undef, .undef, .undef, .undef, .undef, .undef, .undef, .d (.lst ws), .d (.int .i64 n), .d (.int .i64 j), .undef, .undef, .undef, .undef, .undef, .undef, .undef, .undef, .undef, .undef, .undef, .undef, .undef, .undef, .undef, .undef, .undef, .undef, .undef, .undef, .undef, .undef, .undef, .undef, .undef, .undef, .undef, .undef, .undef, .undef, .undef, .undef, .undef, .undef, .undef], [[], [some (.box [.d c0, .d (.lst ws), .d c2, .d c3, .d (.int .i64 now)])], [], [], [], [], [], [], [], [], [], [], [], [], [], [], [], [], [], [], [], [], [], [], [], [], [], [], [], [], [], [], [], [], [], [], [], [], [], [], [], [], [], [], [], [], []]⟩ = some (.ret, ⟨[.undef, .undef, .d (.bool false), .undef, .undef, .undef, .undef, .undef, .undef, .undef, .undef, .undef, .undef, .undef, .undef, .undef, .undef, .undef, .undef, .undef, .undef, .undef, .undef, .undef, .undef, .undef, .undef, .undef, .undef, .undef, .undef, .undef, .undef, .undef, .undef, .undef, .undef, .undef, .undef, .undef, .undef, .undef, .undef, .undef, .undef, .undef, .undef], [[], [], [], [], [], [], [], [], [], [], [], [], [], [], [], [], [], [], [], [], [], [], [], [], [], [], [], [], [], [], [], [], [], [], [], [], [], [], [], [], [], [], [], [], [], [], []]⟩) := by
  refine ho.loopR ?_
  cbv
  repeat ((first | rw [h2] | rw [h3] | rw [i1] | rw [i2]); (try cbv))
theorem s24_out3 (c0 c2 c3 : D) (ws : List D) (now : Int) (d0 d3 d4 d6 : D) (mr mt : Int) (ts : List D) (j j1 n tn c : Int) (z : Out × St)
    (h2 : o.cmp .lss j n = true)
    (h3 : o.elt ws j = some (.agg [d0, .int .i64 mr, .int .i64 mt, d3, d4, .lst ts, d6]))
    (lt : o.len ts = tn)
    (i1 : o.call 38 [.d (.int .i64 now), .d (.int .i64 0), .d (.int .i64 100000000)] [] = some ⟨.d (.bool true), [], []⟩)
    (i2 : o.call 38 [.d (.int .i64 mt), .d (.int .i64 1), .d (.int .i64 1000)] [] = some ⟨.d (.bool true), [], []⟩)
    (l : o.loop 2400 ⟨[.undef, .ptr (1, 0) 0, .undef, .undef, .ptr (4, 0) 0, .d (.int .i64 0), .undef, .undef, .undef, .d (.lst ws), .d (.int .i64 n), .d (.int .i64 j), .undef, .undef, .undef, .undef, .undef, .undef, .undef, .undef, .undef, .undef, .undef, .undef, .undef, .undef, .d (.lst ts), .d (.int .i64 tn), .d (.int .i64 0), .undef, .undef, .undef, .undef, .undef, .undef, .undef, .undef, .undef, .undef, .undef, .undef, .undef, .undef, .undef, .undef, .undef, .undef], [[], [some (.box [.d c0, .d (.lst ws), .d c2, .d c3, .d (.int .i64 now)])], [], [], [some (.box [.d d0, .d (.int .i64 mr), .d (.int .i64 mt), .d d3, .d d4, .d (.lst ts), .d d6])], [], [], [], [], [], [], [], [], [], [], [], [], [], [], [], [], [], [], [], [], [], [], [], [], [], [], [], [], [], [], [], [], [], [], [], [], [], [], [], [], [], []]⟩ = some (.exit 2, ⟨[.undef, .ptr (1, 0) 0, .undef, .undef, .ptr (4, 0) 0, .d (.int .i64 c), .undef, .undef, .undef, .d (.lst ws), .d (.int .i64 n), .d (.int .i64 j), .undef, .undef, .undef, .undef, .undef, .undef, .undef, .undef, .undef, .undef, .undef, .undef, .undef, .undef, .undef, .undef, .undef, .undef, .undef, .undef, .undef, .undef, .undef, .undef, .undef, .undef, .undef, .undef, .undef, .undef, .undef, .undef, .undef, .undef, .undef], [[], [some (.box [.d c0, .d (.lst ws), .d c2, .d c3, .d (.int .i64 now)])], [], [], [some (.box [.d d0, .d (.int .i64 mr), .d (.int .i64 mt), .d d3, .d d4, .d (.lst ts), .d d6])], [], [], [], [], [], [], [], [], [], [], [], [], [], [], [], [], [], [], [], [], [], [], [], [], [], [], [], [], [], [], [], [], [], [], [], [], [], [], [], [], [], []]⟩))
    (g : o.cmp .gtr c mr = true)
    : o.loop 2401 ⟨[.undef, .ptr (1, 0) 0, .undef, .undef, .undef, .undef, .undef, .undef, .undef, .d (.lst ws), .d (.int .i64 n), .d (.int .i64 j), .undef, .undef, .undef, .undef, .undef, .undef, .undef, .undef, .undef, .undef, .undef, .undef, .undef, .undef, .undef, .undef, .undef, .undef, .undef, .undef, .undef, .undef, .undef, .undef, .undef, .undef, .undef, .undef, .undef, .undef, .undef, .undef, .undef, .undef, .undef], [[], [some (.box [.d c0, .d (.lst ws), .d c2, .d c3, .d (.int .i64 now)])], [], [], [], [], [], [], [], [], [], [], [], [], [], [], [], [], [], [], [], [], [], [], [], [], [], [], [], [], [], [], [], [], [], [], [], [], [], [], [], [], [], [], [], [], []]⟩ = some (.ret, ⟨[.undef, .undef, .d (.bool false), .undef, .undef, .undef, .undef, .undef, .undef, .undef, .undef, .undef, .undef, .undef, .undef, .undef, .undef, .undef, .undef, .undef, .undef, .undef, .undef, .undef, .undef, .undef, .undef, .undef, .undef, .undef, .undef, .undef, .undef, .undef, .undef, .undef, .undef, .undef, .undef, .undef, .undef, .undef, .undef, .undef, .undef, .undef, .undef], [[], [], [], [], [], [], [], [], [], [], [], [], [], [], [], [], [], [], [], [], [], [], [], [], [], [], [], [], [], [], [], [], [], [], [], [], [], [], [], [], [], [], [], [], [], [], []]⟩) := by
  refine ho.loopR ?_
  cbv
  repeat ((first | rw [h2] | rw [h3] | rw [lt] | rw [i1] | rw [i2] | rw [l] | rw [g]); (try cbv))
theorem s24_go (c0 c2 c3 : D) (ws : List D) (now : Int) (d0 d3 d4 d6 : D) (mr mt : Int) (ts : List D) (j j1 n tn c : Int) (z : Out × St)
    (h2 : o.cmp .lss j n = true)
    (h3 : o.elt ws j = some (.agg [d0, .int .i64 mr, .int .i64 mt, d3, d4, .lst ts, d6]))
    (lt : o.len ts = tn)
    (i1 : o.call 38 [.d (.int .i64 now), .d (.int .i64 0), .d (.int .i64 100000000)] [] = some ⟨.d (.bool true), [], []⟩)
    (i2 : o.call 38 [.d (.int .i64 mt), .d (.int .i64 1), .d (.int .i64 1000)] [] = some ⟨.d (.bool true), [], []⟩)
    (l : o.loop 2400 ⟨[.undef, .ptr (1, 0) 0, .undef, .undef, .ptr (4, 0) 0, .d (.int .i64 0), .undef, .undef, .undef, .d (.lst ws), .d (.int .i64 n), .d (.int .i64 j), .undef, .undef, .undef, .undef, .undef, .undef, .undef, .undef, .undef, .undef, .undef, .undef, .undef, .undef, .d (.lst ts), .d (.int .i64 tn), .d (.int .i64 0), .undef, .undef, .undef, .undef, .undef, .undef, .undef, .undef, .undef, .undef, .undef, .undef, .undef, .undef, .undef, .undef, .undef, .undef], [[], [some (.box [.d c0, .d (.lst ws), .d c2, .d c3, .d (.int .i64 now)])], [], [], [some (.box [.d d0, .d (.int .i64 mr), .d (.int .i64 mt), .d d3, .d d4, .d (.lst ts), .d d6])], [], [], [], [], [], [], [], [], [], [], [], [], [], [], [], [], [], [], [], [], [], [], [], [], [], [], [], [], [], [], [], [], [], [], [], [], [], [], [], [], [], []]⟩ = some (.exit 2, ⟨[.undef, .ptr (1, 0) 0, .undef, .undef, .ptr (4, 0) 0, .d (.int .i64 c), .undef, .undef, .undef, .d (.lst ws), .d (.int .i64 n), .d (.int .i64 j), .undef, .undef, .undef, .undef, .undef, .undef, .undef, .undef, .undef, .undef, .undef, .undef, .undef, .undef, .undef, .undef, .undef, .undef, .undef, .undef, .undef, .undef, .undef, .undef, .undef, .undef, .undef, .undef, .undef, .undef, .undef, .undef, .undef, .undef, .undef], [[], [some (.box [.d c0, .d (.lst ws), .d c2, .d c3, .d (.int .i64 now)])], [], [], [some (.box [.d d0, .d (.int .i64 mr), .d (.int .i64 mt), .d d3, .d d4, .d (.lst ts), .d d6])], [], [], [], [], [], [], [], [], [], [], [], [], [], [], [], [], [], [], [], [], [], [], [], [], [], [], [], [], [], [], [], [], [], [], [], [], [], [], [], [], [], []]⟩))
    (g : o.cmp .gtr c mr = false)
    (h4 : o.ar .add .i64 j 1 = j1)
    (ih : o.loop 2401 ⟨[.undef, .ptr (1, 0) 0, .undef, .undef, .undef, .undef, .undef, .undef, .undef, .d (.lst ws), .d (.int .i64 n), .d (.int .i64 j1), .undef, .undef, .undef, .undef, .undef, .undef, .undef, .undef, .undef, .undef, .undef, .undef, .undef, .undef, .undef, .undef, .undef, .undef, .undef, .undef, .undef, .undef, .undef, .undef, .undef, .undef, .undef, .undef, .undef, .undef, .undef, .undef, .undef, .undef, .undef], [[], [some (.box [.d c0, .d (.lst ws), .d c2, .d c3, .d (.int .i64 now)])], [], [], [], [], [], [], [], [], [], [], [], [], [], [], [], [], [], [], [], [], [], [], [], [], [], [], [], [], [], [], [], [], [], [], [], [], [], [], [], [], [], [], [], [], []]⟩ = some z)
    : o.loop 2401 ⟨[.undef, .ptr (1, 0) 0, .undef, .undef, .undef, .undef, .undef, .undef, .undef, .d (.lst ws), .d (.int .i64 n), .d (.int .i64 j), .undef, .undef, .undef, .undef, .undef, .undef, .undef, .undef, .undef, .undef, .undef, .undef, .undef, .undef, .undef, .undef, .undef, .undef, .undef, .undef, .undef, .undef, .undef, .undef, .undef, .undef, .undef, .undef, .undef, .undef, .undef, .undef, .undef, .undef, .undef], [[], [some (.box [.d c0, .d (.lst ws), .d c2, .d c3, .d (.int .i64 now)])], [], [], [], [], [], [], [], [], [], [], [], [], [], [], [], [], [], [], [], [], [], [], [], [], [], [], [], [], [], [], [], [], [], [], [], [], [], [], [], [], [], [], [], [], []]⟩ = some z := by
  refine ho.loopR ?_
  cbv
  repeat ((first | rw [h2] | rw [h3] | rw [lt] | rw [i1] | rw [i2] | rw [l] | rw [g] | rw [h4] | exact ih); (try cbv))
theorem s23_yes (c0 c2 c3 : D) (ws : List D) (now : Int)
    (l : o.loop 2301 ⟨[.undef, .ptr (1, 0) 0, .undef, .d (.int .i64 0), .undef, .undef, .undef, .undef, .undef, .undef, .undef, .undef, .undef, .undef, .undef, .undef, .undef, .undef, .undef, .undef, .undef, .undef, .undef, .undef, .undef, .undef, .undef, .undef, .undef, .undef, .undef, .undef, .undef, .undef, .undef, .undef, .undef, .undef, .undef, .undef, .undef, .undef, .undef, .undef, .undef, .undef, .undef, .undef, .undef, .undef, .undef, .undef, .undef], [[], [some (.box [.d c0, .d (.lst ws), .d c2, .d c3, .d (.int .i64 now)])], [], [], [], [], [], [], [], [], [], [], [], [], [], [], [], [], [], [], [], [], [], [], [], [], [], [], [], [], [], [], [], [], [], [], [], [], [], [], [], [], [], [], [], [], [], [], [], [], [], [], []]⟩ = some (.exit 0, ⟨[.undef, .undef, .undef, .undef, .undef, .undef, .undef, .undef, .undef, .undef, .undef, .undef, .undef, .undef, .undef, .undef, .undef, .undef, .undef, .undef, .undef, .undef, .undef, .undef, .undef, .undef, .undef, .undef, .undef, .undef, .undef, .undef, .undef, .undef, .undef, .undef, .undef, .undef, .undef, .undef, .undef, .undef, .undef, .undef, .undef, .undef, .undef, .undef, .undef, .undef, .undef, .undef, .undef], [[], [], [], [], [], [], [], [], [], [], [], [], [], [], [], [], [], [], [], [], [], [], [], [], [], [], [], [], [], [], [], [], [], [], [], [], [], [], [], [], [], [], [], [], [], [], [], [], [], [], [], [], []]⟩))
    : o.call 23 [.agg [.d c0, .d (.lst ws), .d c2, .d c3, .d (.int .i64 now)]] [] = some ⟨.d (.bool true), [], []⟩ := by
  refine ho.callR ?_
  cbv
  repeat ((first | rw [l]); (try cbv))
theorem s23_no (c0 c2 c3 : D) (ws : List D) (now : Int)
    (l : o.loop 2301 ⟨[.undef, .ptr (1, 0) 0, .undef, .d (.int .i64 0), .undef, .undef, .undef, .undef, .undef, .undef, .undef, .undef, .undef, .undef, .undef, .undef, .undef, .undef, .undef, .undef, .undef, .undef, .undef, .undef, .undef, .undef, .undef, .undef, .undef, .undef, .undef, .undef, .undef, .undef, .undef, .undef, .undef, .undef, .undef, .undef, .undef, .undef, .undef, .undef, .undef, .undef, .undef, .undef, .undef, .undef, .undef, .undef, .undef], [[], [some (.box [.d c0, .d (.lst ws), .d c2, .d c3, .d (.int .i64 now)])], [], [], [], [], [], [], [], [], [], [], [], [], [], [], [], [], [], [], [], [], [], [], [], [], [], [], [], [], [], [], [], [], [], [], [], [], [], [], [], [], [], [], [], [], [], [], [], [], [], [], []]⟩ = some (.ret, ⟨[.undef, .undef, .d (.bool false), .undef, .undef, .undef, .undef, .undef, .undef, .undef, .undef, .undef, .undef, .undef, .undef, .undef, .undef, .undef, .undef, .undef, .undef, .undef, .undef, .undef, .undef, .undef, .undef, .undef, .undef, .undef, .undef, .undef, .undef, .undef, .undef, .undef, .undef, .undef, .undef, .undef, .undef, .undef, .undef, .undef, .undef, .undef, .undef, .undef, .undef, .undef, .undef, .undef, .undef], [[], [], [], [], [], [], [], [], [], [], [], [], [], [], [], [], [], [], [], [], [], [], [], [], [], [], [], [], [], [], [], [], [], [], [], [], [], [], [], [], [], [], [], [], [], [], [], [], [], [], [], [], []]⟩))
    : o.call 23 [.agg [.d c0, .d (.lst ws), .d c2, .d c3, .d (.int .i64 now)]] [] = some ⟨.d (.bool false), [], []⟩ := by
  refine ho.callR ?_
  cbv
  repeat ((first | rw [l]); (try cbv))
theorem s24_yes (c0 c2 c3 : D) (ws : List D) (now : Int) (n : Int)
    (hn : o.len ws = n)
    (l : o.loop 2401 ⟨[.undef, .ptr (1, 0) 0, .undef, .undef, .undef, .undef, .undef, .undef, .undef, .d (.lst ws), .d (.int .i64 n), .d (.int .i64 0), .undef, .undef, .undef, .undef, .undef, .undef, .undef, .undef, .undef, .undef, .undef, .undef, .undef, .undef, .undef, .undef, .undef, .undef, .undef, .undef, .undef, .undef, .undef, .undef, .undef, .undef, .undef, .undef, .undef, .undef, .undef, .undef, .undef, .undef, .undef], [[], [some (.box [.d c0, .d (.lst ws), .d c2, .d c3, .d (.int .i64 now)])], [], [], [], [], [], [], [], [], [], [], [], [], [], [], [], [], [], [], [], [], [], [], [], [], [], [], [], [], [], [], [], [], [], [], [], [], [], [], [], [], [], [], [], [], []]⟩ = some (.exit 0, ⟨[.undef, .undef, .undef, .undef, .undef, .undef, .undef, .undef, .undef, .undef, .undef, .undef, .undef, .undef, .undef, .undef, .undef, .undef, .undef, .undef, .undef, .undef, .undef, .undef, .undef, .undef, .undef, .undef, .undef, .undef, .undef, .undef, .undef, .undef, .undef, .undef, .undef, .undef, .undef, .undef, .undef, .undef, .undef, .undef, .undef, .undef, .undef], [[], [], [], [], [], [], [], [], [], [], [], [], [], [], [], [], [], [], [], [], [], [], [], [], [], [], [], [], [], [], [], [], [], [], [], [], [], [], [], [], [], [], [], [], [], [], []]⟩))
    : o.call 24 [.agg [.d c0, .d (.lst ws), .d c2, .d c3, .d (.int .i64 now)]] [] = some ⟨.d (.bool true), [], []⟩ := by
  refine ho.callR ?_
  cbv
  repeat ((first | rw [hn] | rw [l]); (try cbv))
theorem s24_no (c0 c2 c3 : D) (ws : List D) (now : Int) (n : Int)
    (hn : o.len ws = n)
    (l : o.loop 2401 ⟨[.undef, .ptr (1, 0) 0, .undef, .undef, .undef, .undef, .undef, .undef, .undef, .d (.lst ws), .d (.int .i64 n), .d (.int .i64 0), .undef, .undef, .undef, .undef, .undef, .undef, .undef, .undef, .undef, .undef, .undef, .undef, .undef, .undef, .undef, .undef, .undef, .undef, .undef, .undef, .undef, .undef, .undef, .undef, .undef, .undef, .undef, .undef, .undef, .undef, .undef, .undef, .undef, .undef, .undef], [[], [some (.box [.d c0, .d (.lst ws), .d c2, .d c3, .d (.int .i64 now)])], [], [], [], [], [], [], [], [], [], [], [], [], [], [], [], [], [], [], [], [], [], [], [], [], [], [], [], [], [], [], [], [], [], [], [], [], [], [], [], [], [], [], [], [], []]⟩ = some (.ret, ⟨[.undef, .undef, .d (.bool false), .undef, .undef, .undef, .undef, .undef, .undef, .undef, .undef, .undef, .undef, .undef, .undef, .undef, .undef, .undef, .undef, .undef, .undef, .undef, .undef, .undef, .undef, .undef, .undef, .undef, .undef, .undef, .undef, .undef, .undef, .undef, .undef, .undef, .undef, .undef, .undef, .undef, .undef, .undef, .undef, .undef, .undef, .undef, .undef], [[], [], [], [], [], [], [], [], [], [], [], [], [], [], [], [], [], [], [], [], [], [], [], [], [], [], [], [], [], [], [], [], [], [], [], [], [], [], [], [], [], [], [], [], [], [], []]⟩))
    : o.call 24 [.agg [.d c0, .d (.lst ws), .d c2, .d c3, .d (.int .i64 now)]] [] = some ⟨.d (.bool false), [], []⟩ := by
  refine ho.callR ?_
  cbv
  repeat ((first | rw [hn] | rw [l]); (try cbv))
theorem t23_all (c0 c2 c3 : D) (ws : List D) (now : Int) (d0 d3 d4 d6 : D) (mr mt : Int) (ts : List D) (j tn : Int) (hm : tn ≤ 9223372036854775807) (hl : ((ts.length : Nat) : Int) = tn) (hx : ∀ x ∈ ts, ∃ t, x = .int .i64 t) :
    o.loop 2300 ⟨[.undef, .ptr (1, 0) 0, .undef, .d (.int .i64 j), .ptr (4, 0) 0, .d (.int .i64 0), .d (.int .i64 0), .undef, .undef, .undef, .undef, .undef, .undef, .undef, .undef, .undef, .undef, .undef, .undef, .undef, .undef, .undef, .undef, .undef, .undef, .undef, .undef, .undef, .undef, .undef, .undef, .undef, .undef, .undef, .undef, .undef, .undef, .undef, .undef, .undef, .undef, .undef, .undef, .undef, .undef, .undef, .undef, .undef, .undef, .undef, .undef, .undef, .undef], [[], [some (.box [.d c0, .d (.lst ws), .d c2, .d c3, .d (.int .i64 now)])], [], [], [some (.box [.d d0, .d (.int .i64 mr), .d (.int .i64 mt), .d d3, .d d4, .d (.lst ts), .d d6])], [], [], [], [], [], [], [], [], [], [], [], [], [], [], [], [], [], [], [], [], [], [], [], [], [], [], [], [], [], [], [], [], [], [], [], [], [], [], [], [], [], [], [], [], [], [], [], []]⟩ = some (foldR (ε := Empty) (fun (a : Int) x => .ok (late o (o.ar .sub .i64 now mt) a x)) (fun a => (.exit 2, ⟨[.undef, .ptr (1, 0) 0, .undef, .d (.int .i64 j), .ptr (4, 0) 0, .d (.int .i64 a), .undef, .undef, .undef, .undef, .undef, .undef, .undef, .undef, .undef, .undef, .undef, .undef, .undef, .undef, .undef, .undef, .undef, .undef, .undef, .undef, .undef, .undef, .undef, .undef, .undef, .undef, .undef, .undef, .undef, .undef, .undef, .undef, .undef, .undef, .undef, .undef, .undef, .undef, .undef, .undef, .undef, .undef, .undef, .undef, .undef, .undef, .undef], [[], [some (.box [.d c0, .d (.lst ws), .d c2, .d c3, .d (.int .i64 now)])], [], [], [some (.box [.d d0, .d (.int .i64 mr), .d (.int .i64 mt), .d d3, .d d4, .d (.lst ts), .d d6])], [], [], [], [], [], [], [], [], [], [], [], [], [], [], [], [], [], [], [], [], [], [], [], [], [], [], [], [], [], [], [], [], [], [], [], [], [], [], [], [], [], [], [], [], [], [], [], []]⟩)) (fun e => Empty.elim e) 0 ts) := by
  have hn : o.len ts = tn := by rw [← hl]; exact ho.len ts
  refine loop_list (o := o) 2300 (fun k a => ⟨[.undef, .ptr (1, 0) 0, .undef, .d (.int .i64 j), .ptr (4, 0) 0, .d (.int .i64 a), .d (.int .i64 k), .undef, .undef, .undef, .undef, .undef, .undef, .undef, .undef, .undef, .undef, .undef, .undef, .undef, .undef, .undef, .undef, .undef, .undef, .undef, .undef, .undef, .undef, .undef, .undef, .undef, .undef, .undef, .undef, .undef, .undef, .undef, .undef, .undef, .undef, .undef, .undef, .undef, .undef, .undef, .undef, .undef, .undef, .undef, .undef, .undef, .undef], [[], [some (.box [.d c0, .d (.lst ws), .d c2, .d c3, .d (.int .i64 now)])], [], [], [some (.box [.d d0, .d (.int .i64 mr), .d (.int .i64 mt), .d d3, .d d4, .d (.lst ts), .d d6])], [], [], [], [], [], [], [], [], [], [], [], [], [], [], [], [], [], [], [], [], [], [], [], [], [], [], [], [], [], [], [], [], [], [], [], [], [], [], [], [], [], [], [], [], [], [], [], []]⟩) ts tn hl _ (fun a => (.exit 2, ⟨[.undef, .ptr (1, 0) 0, .undef, .d (.int .i64 j), .ptr (4, 0) 0, .d (.int .i64 a), .undef, .undef, .undef, .undef, .undef, .undef, .undef, .undef, .undef, .undef, .undef, .undef, .undef, .undef, .undef, .undef, .undef, .undef, .undef, .undef, .undef, .undef, .undef, .undef, .undef, .undef, .undef, .undef, .undef, .undef, .undef, .undef, .undef, .undef, .undef, .undef, .undef, .undef, .undef, .undef, .undef, .undef, .undef, .undef, .undef, .undef, .undef], [[], [some (.box [.d c0, .d (.lst ws), .d c2, .d c3, .d (.int .i64 now)])], [], [], [some (.box [.d d0, .d (.int .i64 mr), .d (.int .i64 mt), .d d3, .d d4, .d (.lst ts), .d d6])], [], [], [], [], [], [], [], [], [], [], [], [], [], [], [], [], [], [], [], [], [], [], [], [], [], [], [], [], [], [], [], [], [], [], [], [], [], [], [], [], [], [], [], [], [], [], [], []]⟩)) (fun e => Empty.elim e) ?_ ?_ ?_ 0
  · exact fun a => t23_end ho c0 c2 c3 ws now d0 d3 d4 d6 mr mt ts j tn a hn (lt_no ho tn)
  · intro k a x a1 h0 h1 hk he z ih
    obtain ⟨t, rfl⟩ := hx x (List.mem_of_getElem? hk)
    injection he with he
    simp only [late] at he
    cases hg : o.cmp .gtr t (o.ar .sub .i64 now mt) with
    | true => rw [hg] at he; exact t23_yes ho c0 c2 c3 ws now d0 d3 d4 d6 mr mt ts j tn t _ k (k + 1) a a1 z hn (lt_yes ho h1) (elt_some ho ts k _ h0 hk) rfl hg (inc ho h0 h1 hm) he ih
    | false => rw [hg] at he; exact t23_no ho c0 c2 c3 ws now d0 d3 d4 d6 mr mt ts j tn t _ k (k + 1) a z hn (lt_yes ho h1) (elt_some ho ts k _ h0 hk) rfl hg (inc ho h0 h1 hm) (by rw [show a = a1 from he]; exact ih)
  · exact fun k a x e _ _ _ _ => Empty.elim e
theorem t24_all (c0 c2 c3 : D) (ws : List D) (now : Int) (d0 d3 d4 d6 : D) (mr mt : Int) (ts : List D) (j n tn : Int) (hm : tn ≤ 9223372036854775807) (hl : ((ts.length : Nat) : Int) = tn) (hx : ∀ x ∈ ts, ∃ t, x = .int .i64 t) :
    o.loop 2400 ⟨[.undef, .ptr (1, 0) 0, .undef, .undef, .ptr (4, 0) 0, .d (.int .i64 0), .undef, .undef, .undef, .d (.lst ws), .d (.int .i64 n), .d (.int .i64 j), .undef, .undef, .undef, .undef, .undef, .undef, .undef, .undef, .undef, .undef, .undef, .undef, .undef, .undef, .d (.lst ts), .d (.int .i64 tn), .d (.int .i64 0), .undef, .undef, .undef, .undef, .undef, .undef, .undef, .undef, .undef, .undef, .undef, .undef, .undef, .undef, .undef, .undef, .undef, .undef], [[], [some (.box [.d c0, .d (.lst ws), .d c2, .d c3, .d (.int .i64 now)])], [], [], [some (.box [.d d0, .d (.int .i64 mr), .d (.int .i64 mt), .d d3, .d d4, .d (.lst ts), .d d6])], [], [], [], [], [], [], [], [], [], [], [], [], [], [], [], [], [], [], [], [], [], [], [], [], [], [], [], [], [], [], [], [], [], [], [], [], [], [], [], [], [], []]⟩ = some (foldR (ε := Empty) (fun (a : Int) x => .ok (late o (o.ar .sub .i64 now mt) a x)) (fun a => (.exit 2, ⟨[.undef, .ptr (1, 0) 0, .undef, .undef, .ptr (4, 0) 0, .d (.int .i64 a), .undef, .undef, .undef, .d (.lst ws), .d (.int .i64 n), .d (.int .i64 j), .undef, .undef, .undef, .undef, .undef, .undef, .undef, .undef, .undef, .undef, .undef, .undef, .undef, .undef, .undef, .undef, .undef, .undef, .undef, .undef, .undef, .undef, .undef, .undef, .undef, .undef, .undef, .undef, .undef, .undef, .undef, .undef, .undef, .undef, .undef], [[], [some (.box [.d c0, .d (.lst ws), .d c2, .d c3, .d (.int .i64 now)])], [], [], [some (.box [.d d0, .d (.int .i64 mr), .d (.int .i64 mt), .d d3, .d d4, .d (.lst ts), .d d6])], [], [], [], [], [], [], [], [], [], [], [], [], [], [], [], [], [], [], [], [], [], [], [], [], [], [], [], [], [], [], [], [], [], [], [], [], [], [], [], [], [], []]⟩)) (fun e => Empty.elim e) 0 ts) := by
  have hn : o.len ts = tn := by rw [← hl]; exact ho.len ts
  refine loop_list (o := o) 2400 (fun k a => ⟨[.undef, .ptr (1, 0) 0, .undef, .undef, .ptr (4, 0) 0, .d (.int .i64 a), .undef, .undef, .undef, .d (.lst ws), .d (.int .i64 n), .d (.int .i64 j), .undef, .undef, .undef, .undef, .undef, .undef, .undef, .undef, .undef, .undef, .undef, .undef, .undef, .undef, .d (.lst ts), .d (.int .i64 tn), .d (.int .i64 k), .undef, .undef, .undef, .undef, .undef, .undef, .undef, .undef, .undef, .undef, .undef, .undef, .undef, .undef, .undef, .undef, .undef, .undef], [[], [some (.box [.d c0, .d (.lst ws), .d c2, .d c3, .d (.int .i64 now)])], [], [], [some (.box [.d d0, .d (.int .i64 mr), .d (.int .i64 mt), .d d3, .d d4, .d (.lst ts), .d d6])], [], [], [], [], [], [], [], [], [], [], [], [], [], [], [], [], [], [], [], [], [], [], [], [], [], [], [], [], [], [], [], [], [], [], [], [], [], [], [], [], [], []]⟩) ts tn hl _ (fun a => (.exit 2, ⟨[.undef, .ptr (1, 0) 0, .undef, .undef, .ptr (4, 0) 0, .d (.int .i64 a), .undef, .undef, .undef, .d (.lst ws), .d (.int .i64 n), .d (.int .i64 j), .undef, .undef, .undef, .undef, .undef, .undef, .undef, .undef, .undef, .undef, .undef, .undef, .undef, .undef, .undef, .undef, .undef, .undef, .undef, .undef, .undef, .undef, .undef, .undef, .undef, .undef, .undef, .undef, .undef, .undef, .undef, .undef, .undef, .undef, .undef], [[], [some (.box [.d c0, .d (.lst ws), .d c2, .d c3, .d (.int .i64 now)])], [], [], [some (.box [.d d0, .d (.int .i64 mr), .d (.int .i64 mt), .d d3, .d d4, .d (.lst ts), .d d6])], [], [], [], [], [], [], [], [], [], [], [], [], [], [], [], [], [], [], [], [], [], [], [], [], [], [], [], [], [], [], [], [], [], [], [], [], [], [], [], [], [], []]⟩)) (fun e => Empty.elim e) ?_ ?_ ?_ 0
  · exact fun a => t24_end ho c0 c2 c3 ws now d0 d3 d4 d6 mr mt ts j n tn a (lt_no ho tn)
  · intro k a x a1 h0 h1 hk he z ih
    obtain ⟨t, rfl⟩ := hx x (List.mem_of_getElem? hk)
    injection he with he
    simp only [late] at he
    cases hg : o.cmp .gtr t (o.ar .sub .i64 now mt) with
    | true => rw [hg] at he; exact t24_yes ho c0 c2 c3 ws now d0 d3 d4 d6 mr mt ts j n tn t _ k (k + 1) a a1 z (lt_yes ho h1) (elt_some ho ts k _ h0 hk) rfl hg (inc ho h0 h1 hm) he ih
    | false => rw [hg] at he; exact t24_no ho c0 c2 c3 ws now d0 d3 d4 d6 mr mt ts j n tn t _ k (k + 1) a z (lt_yes ho h1) (elt_some ho ts k _ h0 hk) rfl hg (inc ho h0 h1 hm) (by rw [show a = a1 from he]; exact ih)
  · exact fun k a x e _ _ _ _ => Empty.elim e
theorem s23_all (c0 c2 c3 : D) (ws : List D) (now n : Int) (hm : n ≤ 9223372036854775807) (hl : ((ws.length : Nat) : Int) = n)
    (hx : ∀ x ∈ ws, ∃ d0 mr mt d3 d4 ts d6, x = .agg [d0, .int .i64 mr, .int .i64 mt, d3, d4, .lst ts, d6] ∧ ts.length ≤ maxLen ∧ ∀ y ∈ ts, ∃ t, y = .int .i64 t) :
    o.loop 2301 ⟨[.undef, .ptr (1, 0) 0, .undef, .d (.int .i64 0), .undef, .undef, .undef, .undef, .undef, .undef, .undef, .undef, .undef, .undef, .undef, .undef, .undef, .undef, .undef, .undef, .undef, .undef, .undef, .undef, .undef, .undef, .undef, .undef, .undef, .undef, .undef, .undef, .undef, .undef, .undef, .undef, .undef, .undef, .undef, .undef, .undef, .undef, .undef, .undef, .undef, .undef, .undef, .undef, .undef, .undef, .undef, .undef, .undef], [[], [some (.box [.d c0, .d (.lst ws), .d c2, .d c3, .d (.int .i64 now)])], [], [], [], [], [], [], [], [], [], [], [], [], [], [], [], [], [], [], [], [], [], [], [], [], [], [], [], [], [], [], [], [], [], [], [], [], [], [], [], [], [], [], [], [], [], [], [], [], [], [], []]⟩ = some (foldR (fun (_ : Unit) x => match calm o now x with | true => .ok () | false => .error ()) (fun _ => (.exit 0, ⟨[.undef, .undef, .undef, .undef, .undef, .undef, .undef, .undef, .undef, .undef, .undef, .undef, .undef, .undef, .undef, .undef, .undef, .undef, .undef, .undef, .undef, .undef, .undef, .undef, .undef, .undef, .undef, .undef, .undef, .undef, .undef, .undef, .undef, .undef, .undef, .undef, .undef, .undef, .undef, .undef, .undef, .undef, .undef, .undef, .undef, .undef, .undef, .undef, .undef, .undef, .undef, .undef, .undef], [[], [], [], [], [], [], [], [], [], [], [], [], [], [], [], [], [], [], [], [], [], [], [], [], [], [], [], [], [], [], [], [], [], [], [], [], [], [], [], [], [], [], [], [], [], [], [], [], [], [], [], [], []]⟩)) (fun (_ : Unit) => (.ret, ⟨[.undef, .undef, .d (.bool false), .undef, .undef, .undef, .undef, .undef, .undef, .undef, .undef, .undef, .undef, .undef, .undef, .undef, .undef, .undef, .undef, .undef, .undef, .undef, .undef, .undef, .undef, .undef, .undef, .undef, .undef, .undef, .undef, .undef, .undef, .undef, .undef, .undef, .undef, .undef, .undef, .undef, .undef, .undef, .undef, .undef, .undef, .undef, .undef, .undef, .undef, .undef, .undef, .undef, .undef], [[], [], [], [], [], [], [], [], [], [], [], [], [], [], [], [], [], [], [], [], [], [], [], [], [], [], [], [], [], [], [], [], [], [], [], [], [], [], [], [], [], [], [], [], [], [], [], [], [], [], [], [], []]⟩)) () ws) := by
  have hn : o.len ws = n := by rw [← hl]; exact ho.len ws
  refine loop_list (o := o) 2301 (fun j (_ : Unit) => ⟨[.undef, .ptr (1, 0) 0, .undef, .d (.int .i64 j), .undef, .undef, .undef, .undef, .undef, .undef, .undef, .undef, .undef, .undef, .undef, .undef, .undef, .undef, .undef, .undef, .undef, .undef, .undef, .undef, .undef, .undef, .undef, .undef, .undef, .undef, .undef, .undef, .undef, .undef, .undef, .undef, .undef, .undef, .undef, .undef, .undef, .undef, .undef, .undef, .undef, .undef, .undef, .undef, .undef, .undef, .undef, .undef, .undef], [[], [some (.box [.d c0, .d (.lst ws), .d c2, .d c3, .d (.int .i64 now)])], [], [], [], [], [], [], [], [], [], [], [], [], [], [], [], [], [], [], [], [], [], [], [], [], [], [], [], [], [], [], [], [], [], [], [], [], [], [], [], [], [], [], [], [], [], [], [], [], [], [], []]⟩) ws n hl _ (fun _ => (.exit 0, ⟨[.undef, .undef, .undef, .undef, .undef, .undef, .undef, .undef, .undef, .undef, .undef, .undef, .undef, .undef, .undef, .undef, .undef, .undef, .undef, .undef, .undef, .undef, .undef, .undef, .undef, .undef, .undef, .undef, .undef, .undef, .undef, .undef, .undef, .undef, .undef, .undef, .undef, .undef, .undef, .undef, .undef, .undef, .undef, .undef, .undef, .undef, .undef, .undef, .undef, .undef, .undef, .undef, .undef], [[], [], [], [], [], [], [], [], [], [], [], [], [], [], [], [], [], [], [], [], [], [], [], [], [], [], [], [], [], [], [], [], [], [], [], [], [], [], [], [], [], [], [], [], [], [], [], [], [], [], [], [], []]⟩)) (fun (_ : Unit) => (.ret, ⟨[.undef, .undef, .d (.bool false), .undef, .undef, .undef, .undef, .undef, .undef, .undef, .undef, .undef, .undef, .undef, .undef, .undef, .undef, .undef, .undef, .undef, .undef, .undef, .undef, .undef, .undef, .undef, .undef, .undef, .undef, .undef, .undef, .undef, .undef, .undef, .undef, .undef, .undef, .undef, .undef, .undef, .undef, .undef, .undef, .undef, .undef, .undef, .undef, .undef, .undef, .undef, .undef, .undef, .undef], [[], [], [], [], [], [], [], [], [], [], [], [], [], [], [], [], [], [], [], [], [], [], [], [], [], [], [], [], [], [], [], [], [], [], [], [], [], [], [], [], [], [], [], [], [], [], [], [], [], [], [], [], []]⟩)) ?_ ?_ ?_ ()
  · exact fun _ => s23_end ho c0 c2 c3 ws now n hn (lt_no ho n)
  · intro j a x a1 h0 h1 hk he z ih
    obtain ⟨d0, mr, mt, d3, d4, ts, d6, rfl, htl, hts⟩ := hx x (List.mem_of_getElem? hk)
    obtain ⟨tn, htn⟩ : ∃ tn, ((ts.length : Nat) : Int) = tn := ⟨_, rfl⟩
    have htm : tn ≤ 9223372036854775807 := by unfold maxLen at htl; omega
    have hlt : o.len ts = tn := by rw [← htn]; exact ho.len ts
    have l := t23_all ho c0 c2 c3 ws now d0 d3 d4 d6 mr mt ts j tn htm htn hts
    simp only [foldR, foldE_ok] at l
    simp only [calm] at he
    have q1 := in34 ho now 0 100000000
    have q2 := in34 ho mt 1 1000
    revert he q1 q2
    cases hb1 : decide (0 ≤ now ∧ now ≤ 100000000) with
    | false => intro he; cases he
    | true =>
      cases hb2 : decide (1 ≤ mt ∧ mt ≤ 1000) with
      | false => intro he; cases he
      | true =>
        intro he q1 q2
        cases hg : o.cmp .gtr (ts.foldl (late o (o.ar .sub .i64 now mt)) 0) mr with
        | true => simp only [hg] at he; cases he
        | false => exact s23_go ho c0 c2 c3 ws now d0 d3 d4 d6 mr mt ts j (j + 1) n tn _ z hn (lt_yes ho h1) (elt_some ho ws j _ h0 hk) q1 q2 l hg (inc ho h0 h1 hm) ih
  · intro j a x e h0 h1 hk he
    obtain ⟨d0, mr, mt, d3, d4, ts, d6, rfl, htl, hts⟩ := hx x (List.mem_of_getElem? hk)
    obtain ⟨tn, htn⟩ : ∃ tn, ((ts.length : Nat) : Int) = tn := ⟨_, rfl⟩
    have htm : tn ≤ 9223372036854775807 := by unfold maxLen at htl; omega
    have hlt : o.len ts = tn := by rw [← htn]; exact ho.len ts
    have l := t23_all ho c0 c2 c3 ws now d0 d3 d4 d6 mr mt ts j tn htm htn hts
    simp only [foldR, foldE_ok] at l
    simp only [calm] at he
    have q1 := in34 ho now 0 100000000
    have q2 := in34 ho mt 1 1000
    revert he q1 q2
    cases hb1 : decide (0 ≤ now ∧ now ≤ 100000000) with
    | false => intro _ q1 _; exact s23_out1 ho c0 c2 c3 ws now d0 d3 d4 d6 mr mt ts j n (.norm, ⟨[], []⟩) hn (lt_yes ho h1) (elt_some ho ws j _ h0 hk) q1
    | true =>
      cases hb2 : decide (1 ≤ mt ∧ mt ≤ 1000) with
      | false => intro _ q1 q2; exact s23_out2 ho c0 c2 c3 ws now d0 d3 d4 d6 mr mt ts j n (.norm, ⟨[], []⟩) hn (lt_yes ho h1) (elt_some ho ws j _ h0 hk) q1 q2
      | true =>
        intro he q1 q2
        cases hg : o.cmp .gtr (ts.foldl (late o (o.ar .sub .i64 now mt)) 0) mr with
        | false => simp only [hg] at he; cases he
        | true => exact s23_out3 ho c0 c2 c3 ws now d0 d3 d4 d6 mr mt ts j 0 n tn _ (.norm, ⟨[], []⟩) hn (lt_yes ho h1) (elt_some ho ws j _ h0 hk) q1 q2 l hg
theorem s24_all (c0 c2 c3 : D) (ws : List D) (now n : Int) (hm : n ≤ 9223372036854775807) (hl : ((ws.length : Nat) : Int) = n)
    (hx : ∀ x ∈ ws, ∃ d0 mr mt d3 d4 ts d6, x = .agg [d0, .int .i64 mr, .int .i64 mt, d3, d4, .lst ts, d6] ∧ ts.length ≤ maxLen ∧ ∀ y ∈ ts, ∃ t, y = .int .i64 t) :
    o.loop 2401 ⟨[.undef, .ptr (1, 0) 0, .undef, .undef, .undef, .undef, .undef, .undef, .undef, .d (.lst ws), .d (.int .i64 n), .d (.int .i64 0), .undef, .undef, .undef, .undef, .undef, .undef, .undef, .undef, .undef, .undef, .undef, .undef, .undef, .undef, .undef, .undef, .undef, .undef, .undef, .undef, .undef, .undef, .undef, .undef, .undef, .undef, .undef, .undef, .undef, .undef, .undef, .undef, .undef, .undef, .undef], [[], [some (.box [.d c0, .d (.lst ws), .d c2, .d c3, .d (.int .i64 now)])], [], [], [], [], [], [], [], [], [], [], [], [], [], [], [], [], [], [], [], [], [], [], [], [], [], [], [], [], [], [], [], [], [], [], [], [], [], [], [], [], [], [], [], [], []]⟩ = some (foldR (fun (_ : Unit) x => match calm o now x with | true => .ok () | false => .error ()) (fun _ => (.exit 0, ⟨[.undef, .undef, .undef, .undef, .undef, .undef, .undef, .undef, .undef, .undef, .undef, .undef, .undef, .undef, .undef, .undef, .undef, .undef, .undef, .undef, .undef, .undef, .undef, .undef, .undef, .undef, .undef, .undef, .undef, .undef, .undef, .undef, .undef, .undef, .undef, .undef, .undef, .undef, .undef, .undef, .undef, .undef, .undef, .undef, .undef, .undef, .undef], [[], [], [], [], [], [], [], [], [], [], [], [], [], [], [], [], [], [], [], [], [], [], [], [], [], [], [], [], [], [], [], [], [], [], [], [], [], [], [], [], [], [], [], [], [], [], []]⟩)) (fun (_ : Unit) => (.ret, ⟨[.undef, .undef, .d (.bool false), .undef, .undef, .undef, .undef, .undef, .undef, .undef, .undef, .undef, .undef, .undef, .undef, .undef, .undef, .undef, .undef, .undef, .undef, .undef, .undef, .undef, .undef, .undef, .undef, .undef, .undef, .undef, .undef, .undef, .undef, .undef, .undef, .undef, .undef, .undef, .undef, .undef, .undef, .undef, .undef, .undef, .undef, .undef, .undef], [[], [], [], [], [], [], [], [], [], [], [], [], [], [], [], [], [], [], [], [], [], [], [], [], [], [], [], [], [], [], [], [], [], [], [], [], [], [], [], [], [], [], [], [], [], [], []]⟩)) () ws) := by
  have hn : o.len ws = n := by rw [← hl]; exact ho.len ws
  refine loop_list (o := o) 2401 (fun j (_ : Unit) => ⟨[.undef, .ptr (1, 0) 0, .undef, .undef, .undef, .undef, .undef, .undef, .undef, .d (.lst ws), .d (.int .i64 n), .d (.int .i64 j), .undef, .undef, .undef, .undef, .undef, .undef, .undef, .undef, .undef, .undef, .undef, .undef, .undef, .undef, .undef, .undef, .undef, .undef, .undef, .undef, .undef, .undef, .undef, .undef, .undef, .undef, .undef, .undef, .undef, .undef, .undef, .undef, .undef, .undef, .undef], [[], [some (.box [.d c0, .d (.lst ws), .d c2, .d c3, .d (.int .i64 now)])], [], [], [], [], [], [], [], [], [], [], [], [], [], [], [], [], [], [], [], [], [], [], [], [], [], [], [], [], [], [], [], [], [], [], [], [], [], [], [], [], [], [], [], [], []]⟩) ws n hl _ (fun _ => (.exit 0, ⟨[.undef, .undef, .undef, .undef, .undef, .undef, .undef, .undef, .undef, .undef, .undef, .undef, .undef, .undef, .undef, .undef, .undef, .undef, .undef, .undef, .undef, .undef, .undef, .undef, .undef, .undef, .undef, .undef, .undef, .undef, .undef, .undef, .undef, .undef, .undef, .undef, .undef, .undef, .undef, .undef, .undef, .undef, .undef, .undef, .undef, .undef, .undef], [[], [], [], [], [], [], [], [], [], [], [], [], [], [], [], [], [], [], [], [], [], [], [], [], [], [], [], [], [], [], [], [], [], [], [], [], [], [], [], [], [], [], [], [], [], [], []]⟩)) (fun (_ : Unit) => (.ret, ⟨[.undef, .undef, .d (.bool false), .undef, .undef, .undef, .undef, .undef, .undef, .undef, .undef, .undef, .undef, .undef, .undef, .undef, .undef, .undef, .undef, .undef, .undef, .undef, .undef, .undef, .undef, .undef, .undef, .undef, .undef, .undef, .undef, .undef, .undef, .undef, .undef, .undef, .undef, .undef, .undef, .undef, .undef, .undef, .undef, .undef, .undef, .undef, .undef], [[], [], [], [], [], [], [], [], [], [], [], [], [], [], [], [], [], [], [], [], [], [], [], [], [], [], [], [], [], [], [], [], [], [], [], [], [], [], [], [], [], [], [], [], [], [], []]⟩)) ?_ ?_ ?_ ()
  · exact fun _ => s24_end ho c0 c2 c3 ws now n (lt_no ho n)
  · intro j a x a1 h0 h1 hk he z ih
    obtain ⟨d0, mr, mt, d3, d4, ts, d6, rfl, htl, hts⟩ := hx x (List.mem_of_getElem? hk)
    obtain ⟨tn, htn⟩ : ∃ tn, ((ts.length : Nat) : Int) = tn := ⟨_, rfl⟩
    have htm : tn ≤ 9223372036854775807 := by unfold maxLen at htl; omega
    have hlt : o.len ts = tn := by rw [← htn]; exact ho.len ts
    have l := t24_all ho c0 c2 c3 ws now d0 d3 d4 d6 mr mt ts j n tn htm htn hts
    simp only [foldR, foldE_ok] at l
    simp only [calm] at he
    have q1 := in38 ho now 0 100000000
    have q2 := in38 ho mt 1 1000
    revert he q1 q2
    cases hb1 : decide (0 ≤ now ∧ now ≤ 100000000) with
    | false => intro he; cases he
    | true =>
      cases hb2 : decide (1 ≤ mt ∧ mt ≤ 1000) with
      | false => intro he; cases he
      | true =>
        intro he q1 q2
        cases hg : o.cmp .gtr (ts.foldl (late o (o.ar .sub .i64 now mt)) 0) mr with
        | true => simp only [hg] at he; cases he
        | false => exact s24_go ho c0 c2 c3 ws now d0 d3 d4 d6 mr mt ts j (j + 1) n tn _ z (lt_yes ho h1) (elt_some ho ws j _ h0 hk) hlt q1 q2 l hg (inc ho h0 h1 hm) ih
  · intro j a x e h0 h1 hk he
    obtain ⟨d0, mr, mt, d3, d4, ts, d6, rfl, htl, hts⟩ := hx x (List.mem_of_getElem? hk)
    obtain ⟨tn, htn⟩ : ∃ tn, ((ts.length : Nat) : Int) = tn := ⟨_, rfl⟩
    have htm : tn ≤ 9223372036854775807 := by unfold maxLen at htl; omega
    have hlt : o.len ts = tn := by rw [← htn]; exact ho.len ts
    have l := t24_all ho c0 c2 c3 ws now d0 d3 d4 d6 mr mt ts j n tn htm htn hts
    simp only [foldR, foldE_ok] at l
    simp only [calm] at he
    have q1 := in38 ho now 0 100000000
    have q2 := in38 ho mt 1 1000
    revert he q1 q2
    cases hb1 : decide (0 ≤ now ∧ now ≤ 100000000) with
    | false => intro _ q1 _; exact s24_out1 ho c0 c2 c3 ws now d0 d3 d4 d6 mr mt ts j n (.norm, ⟨[], []⟩) (lt_yes ho h1) (elt_some ho ws j _ h0 hk) q1
    | true =>
      cases hb2 : decide (1 ≤ mt ∧ mt ≤ 1000) with
      | false => intro _ q1 q2; exact s24_out2 ho c0 c2 c3 ws now d0 d3 d4 d6 mr mt ts j n (.norm, ⟨[], []⟩) (lt_yes ho h1) (elt_some ho ws j _ h0 hk) q1 q2
      | true =>
        intro he q1 q2
        cases hg : o.cmp .gtr (ts.foldl (late o (o.ar .sub .i64 now mt)) 0) mr with
        | false => simp only [hg] at he; cases he
        | true => exact s24_out3 ho c0 c2 c3 ws now d0 d3 d4 d6 mr mt ts j 0 n tn _ (.norm, ⟨[], []⟩) (lt_yes ho h1) (elt_some ho ws j _ h0 hk) hlt q1 q2 l hg
/-- Both ask the same of each overseer. -/
theorem tooOften_both (c0 c2 c3 : D) (ws : List D) (now : Int) (hm : ((ws.length : Nat) : Int) ≤ 9223372036854775807)
    (hx : ∀ x ∈ ws, ∃ d0 mr mt d3 d4 ts d6, x = .agg [d0, .int .i64 mr, .int .i64 mt, d3, d4, .lst ts, d6] ∧ ts.length ≤ maxLen ∧ ∀ y ∈ ts, ∃ t, y = .int .i64 t) :
    ∃ v, o.call 23 [.agg [.d c0, .d (.lst ws), .d c2, .d c3, .d (.int .i64 now)]] [] = some ⟨.d (.bool v), [], []⟩ ∧ o.call 24 [.agg [.d c0, .d (.lst ws), .d c2, .d c3, .d (.int .i64 now)]] [] = some ⟨.d (.bool v), [], []⟩ := by
  have hn := ho.len ws
  obtain ⟨n, hN⟩ : ∃ n, ((ws.length : Nat) : Int) = n := ⟨_, rfl⟩
  rw [hN] at hn hm
  have l1 := s23_all ho c0 c2 c3 ws now n hm hN hx
  have l2 := s24_all ho c0 c2 c3 ws now n hm hN hx
  simp only [foldR] at l1 l2
  revert l1 l2
  cases foldE (fun (_ : Unit) x => match calm o now x with | true => (.ok () : Except Unit Unit) | false => .error ()) () ws with
  | ok u => intro l1 l2; exact ⟨true, s23_yes ho c0 c2 c3 ws now l1, s24_yes ho c0 c2 c3 ws now n hn l2⟩
  | error u => intro l1 l2; exact ⟨false, s23_no ho c0 c2 c3 ws now l1, s24_no ho c0 c2 c3 ws now n hn l2⟩
theorem notTooOften_law {n : Nat} {ds : List D} (h : Fits Try.prog n 40 ds) : o.call 6 [.agg (ds.map .d)] [] = some ⟨.d (.bool true), [], []⟩ := by
  refine NotTooOften_join ho h fun _ => ?_
  cases n with
  | zero => simp [Fits] at h
  | succ n =>
    obtain ⟨c0, c1, c2, c3, c4, rfl, h0, h1, h2, h3, h4⟩ := fits40 h
    obtain ⟨now, e, _⟩ := fits_int Try.underlying3 h4
    injection e with e
    subst e
    obtain ⟨ws, m, em, e, hl, hx⟩ := fits_lst Try.underlying37 h1
    injection e with e
    subst e
    subst em
    refine tooOften_both ho c0 c2 c3 ws now (by unfold maxLen at hl; omega) fun x hm => ?_
    obtain ⟨f1, f2⟩ := hx x hm
    rw [show aggT Try.prog 25 = true by unfold aggT; rw [Try.underlying25]] at f2
    cases m with
    | zero => simp [Fits] at f1
    | succ m =>
      obtain ⟨d0, d1, d2, d3, d4, d5, d6, e1, g0, g1, g2, g3, g4, g5, g6⟩ := fits25 f1
      obtain ⟨mr, e2, _⟩ := fits_int Try.underlying3 g1
      injection e2 with e2
      subst e2
      obtain ⟨mt, e2, _⟩ := fits_int Try.underlying3 g2
      injection e2 with e2
      subst e2
      obtain ⟨ts, m2, em2, e2, hl2, hx2⟩ := fits_lst Try.underlying23 g5
      injection e2 with e2
      subst e2
      refine ⟨d0, mr, mt, d3, d4, ts, d6, by rw [many_agg f2, e1], hl2, fun y hy => ?_⟩
      obtain ⟨f3, f4⟩ := hx2 y hy
      rw [show aggT Try.prog 3 = false by unfold aggT; rw [Try.underlying3]] at f4
      obtain ⟨i, e3, _⟩ := fits_int Try.underlying3 f3
      rw [one_cell f4] at e3
      injection e3 with e3
      exact ⟨i, e3⟩
end T1
