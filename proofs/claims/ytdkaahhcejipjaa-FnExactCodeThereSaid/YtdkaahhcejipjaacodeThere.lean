import Derived.Test.YtdkaahhcejipjaaD5
import Derived.Test.YtdkaahhcejipjaaVi32
import Derived.Test.YtdkaahhcejipjaaProg
import Derived.KernelRfl
set_option linter.unusedVariables false
set_option linter.unusedSimpArgs false
open Go Go.Vi Go.Proofs
namespace T1
set_option maxRecDepth 100000
set_option maxHeartbeats 4000000
set_option linter.unusedVariables false
def isEntry (x : D) : Prop := ∃ en eno q2 q3 eh q5 q6, x = .agg [.str en, .int .i64 eno, q2, q3, .bool eh, q5, q6]
/-- Not this name: go on; else here. -/
def named (o : Ora) (nm : ByteArray) (k : Int) (_ : Unit) : D → Except Int Unit
  | .agg (.str en :: _) => match o.sCmp .eql en nm with
    | true => .error k
    | false => .ok ()
  | _ => .ok ()
def placeOf (o : Ora) (es : List D) (nm : ByteArray) : Int := foldJ (named o nm) (fun _ => -1) (fun k => k) () es
/-- Is this code there? -/
def there (o : Ora) (no : Int) : Option D → Bool
  | some (.agg [_, .int _ eno, _, _, .bool eh, _, _]) => match o.cmp .eql eno no with
    | true => true
    | false => match eh with
      | true => o.cmp .eql (o.ar .sub .i64 eno 1) no
      | false => false
  | _ => false
def hasCode (o : Ora) (es : List D) : D → Bool
  | .agg [_, _, .str nm, .int _ no, _, _, _, _, _] => match decide (placeOf o es nm < 0) with
    | true => false
    | false => there o no es[(placeOf o es nm).toNat]?
  | _ => true
variable {o : Ora} (ho : IsDen vfun vloop o)
include ho
theorem e101 (en : ByteArray) (eno : Int) (q2 q3 q5 q6 : D) (eh : Bool) (nm : ByteArray) (v : Bool)
    (h : o.sCmp .eql en nm = v)
    : o.call 101 [.agg [.d (.str en), .d (.int .i64 eno), .d q2, .d q3, .d (.bool eh), .d q5, .d q6], .ptr (1, 0) 0] [some (.box [.d (.str nm)])] = some ⟨.d (.bool v), [some (.box [.d (.str nm)])], []⟩ := by
  refine ho.callR ?_
  cbv
  repeat ((first | rw [h]); (try cbv))
theorem s81_end (es : List D) (nm : ByteArray) (n : Int)
    (hn : o.len es = n)
    (h2 : o.cmp .lss n n = false)
    : o.loop 8100 ⟨[.d (.lst es), .d (.str nm), .undef, .undef, .undef, .d (.int .i64 n), .undef, .undef, .undef, .undef, .undef, .undef, .undef, .undef, .undef, .undef, .undef, .undef, .undef, .undef], [[], [], [], [], [], [], [], [], [], [], [], [], [], [], [], [], [], [], [], []]⟩ = some (.exit 0, ⟨[.undef, .undef, .undef, .undef, .undef, .undef, .undef, .undef, .undef, .undef, .undef, .undef, .undef, .undef, .undef, .undef, .undef, .undef, .undef, .undef], [[], [], [], [], [], [], [], [], [], [], [], [], [], [], [], [], [], [], [], []]⟩) := by
  refine ho.loopR ?_
  cbv
  repeat ((first | rw [hn] | rw [h2]); (try cbv))
theorem s81_go (es : List D) (nm : ByteArray) (n k k1 : Int) (en : ByteArray) (eno : Int) (q2 q3 q5 q6 : D) (eh : Bool) (z : Out × St)
    (hn : o.len es = n)
    (h2 : o.cmp .lss k n = true)
    (h3 : o.elt es k = some (.agg [.str en, .int .i64 eno, q2, q3, .bool eh, q5, q6]))
    (h5 : o.sCmp .eql en nm = false)
    (h4 : o.ar .add .i64 k 1 = k1)
    (ih : o.loop 8100 ⟨[.d (.lst es), .d (.str nm), .undef, .undef, .undef, .d (.int .i64 k1), .undef, .undef, .undef, .undef, .undef, .undef, .undef, .undef, .undef, .undef, .undef, .undef, .undef, .undef], [[], [], [], [], [], [], [], [], [], [], [], [], [], [], [], [], [], [], [], []]⟩ = some z)
    : o.loop 8100 ⟨[.d (.lst es), .d (.str nm), .undef, .undef, .undef, .d (.int .i64 k), .undef, .undef, .undef, .undef, .undef, .undef, .undef, .undef, .undef, .undef, .undef, .undef, .undef, .undef], [[], [], [], [], [], [], [], [], [], [], [], [], [], [], [], [], [], [], [], []]⟩ = some z := by
  refine ho.loopR ?_
  cbv
  repeat ((first | rw [hn] | rw [h2] | rw [h3] | rw [h5] | rw [h4] | exact ih); (try cbv))
theorem s81_out (es : List D) (nm : ByteArray) (n k : Int) (en : ByteArray) (eno : Int) (q2 q3 q5 q6 : D) (eh : Bool)
    (hn : o.len es = n)
    (h2 : o.cmp .lss k n = true)
    (h3 : o.elt es k = some (.agg [.str en, .int .i64 eno, q2, q3, .bool eh, q5, q6]))
    (h5 : o.sCmp .eql en nm = true)
    : o.loop 8100 ⟨[.d (.lst es), .d (.str nm), .undef, .undef, .undef, .d (.int .i64 k), .undef, .undef, .undef, .undef, .undef, .undef, .undef, .undef, .undef, .undef, .undef, .undef, .undef, .undef], [[], [], [], [], [], [], [], [], [], [], [], [], [], [], [], [], [], [], [], []]⟩ = some (.ret, ⟨[.undef, .undef, .undef, .undef, .d (.int .i64 k), .undef, .undef, .undef, .undef, .undef, .undef, .undef, .undef, .undef, .undef, .undef, .undef, .undef, .undef, .undef], [[], [], [], [], [], [], [], [], [], [], [], [], [], [], [], [], [], [], [], []]⟩) := by
  refine ho.loopR ?_
  cbv
  repeat ((first | rw [hn] | rw [h2] | rw [h3] | rw [h5]); (try cbv))
theorem s81_no (es : List D) (nm : ByteArray)
    (l : o.loop 8100 ⟨[.d (.lst es), .d (.str nm), .undef, .undef, .undef, .d (.int .i64 0), .undef, .undef, .undef, .undef, .undef, .undef, .undef, .undef, .undef, .undef, .undef, .undef, .undef, .undef], [[], [], [], [], [], [], [], [], [], [], [], [], [], [], [], [], [], [], [], []]⟩ = some (.exit 0, ⟨[.undef, .undef, .undef, .undef, .undef, .undef, .undef, .undef, .undef, .undef, .undef, .undef, .undef, .undef, .undef, .undef, .undef, .undef, .undef, .undef], [[], [], [], [], [], [], [], [], [], [], [], [], [], [], [], [], [], [], [], []]⟩))
    : o.call 81 [.d (.lst es), .d (.str nm)] [] = some ⟨.d (.int .i64 (-1)), [], []⟩ := by
  refine ho.callR ?_
  cbv
  repeat ((first | rw [l]); (try cbv))
theorem s81_yes (es : List D) (nm : ByteArray) (k : Int)
    (l : o.loop 8100 ⟨[.d (.lst es), .d (.str nm), .undef, .undef, .undef, .d (.int .i64 0), .undef, .undef, .undef, .undef, .undef, .undef, .undef, .undef, .undef, .undef, .undef, .undef, .undef, .undef], [[], [], [], [], [], [], [], [], [], [], [], [], [], [], [], [], [], [], [], []]⟩ = some (.ret, ⟨[.undef, .undef, .undef, .undef, .d (.int .i64 k), .undef, .undef, .undef, .undef, .undef, .undef, .undef, .undef, .undef, .undef, .undef, .undef, .undef, .undef, .undef], [[], [], [], [], [], [], [], [], [], [], [], [], [], [], [], [], [], [], [], []]⟩))
    : o.call 81 [.d (.lst es), .d (.str nm)] [] = some ⟨.d (.int .i64 k), [], []⟩ := by
  refine ho.callR ?_
  cbv
  repeat ((first | rw [l]); (try cbv))
theorem s100_end (es : List D) (nm : ByteArray) (n : Int)
    (h2 : o.cmp .lss n n = false)
    : o.loop 10000 ⟨[.d (.lst es), .fn 101 [.ptr (19, 0) 0], .undef, .undef, .undef, .undef, .undef, .d (.int .i64 n), .d (.int .i64 n), .undef, .undef, .undef, .undef, .undef, .undef, .undef, .undef, .undef, .undef], [[], [], [], [], [], [], [], [], [], [], [], [], [], [], [], [], [], [], [], [some (.box [.d (.str nm)])]]⟩ = some (.exit 0, ⟨[.undef, .undef, .undef, .undef, .undef, .undef, .undef, .undef, .undef, .undef, .undef, .undef, .undef, .undef, .undef, .undef, .undef, .undef, .undef], [[], [], [], [], [], [], [], [], [], [], [], [], [], [], [], [], [], [], [], [some (.box [.d (.str nm)])]]⟩) := by
  refine ho.loopR ?_
  cbv
  repeat ((first | rw [h2]); (try cbv))
theorem s100_go (es : List D) (nm : ByteArray) (n k k1 : Int) (en : ByteArray) (eno : Int) (q2 q3 q5 q6 : D) (eh : Bool) (z : Out × St)
    (h2 : o.cmp .lss k n = true)
    (h3 : o.elt es k = some (.agg [.str en, .int .i64 eno, q2, q3, .bool eh, q5, q6]))
    (c : o.call 101 [.agg [.d (.str en), .d (.int .i64 eno), .d q2, .d q3, .d (.bool eh), .d q5, .d q6], .ptr (1, 0) 0] [some (.box [.d (.str nm)])] = some ⟨.d (.bool false), [some (.box [.d (.str nm)])], []⟩)
    (h4 : o.ar .add .i64 k 1 = k1)
    (ih : o.loop 10000 ⟨[.d (.lst es), .fn 101 [.ptr (19, 0) 0], .undef, .undef, .undef, .undef, .undef, .d (.int .i64 n), .d (.int .i64 k1), .undef, .undef, .undef, .undef, .undef, .undef, .undef, .undef, .undef, .undef], [[], [], [], [], [], [], [], [], [], [], [], [], [], [], [], [], [], [], [], [some (.box [.d (.str nm)])]]⟩ = some z)
    : o.loop 10000 ⟨[.d (.lst es), .fn 101 [.ptr (19, 0) 0], .undef, .undef, .undef, .undef, .undef, .d (.int .i64 n), .d (.int .i64 k), .undef, .undef, .undef, .undef, .undef, .undef, .undef, .undef, .undef, .undef], [[], [], [], [], [], [], [], [], [], [], [], [], [], [], [], [], [], [], [], [some (.box [.d (.str nm)])]]⟩ = some z := by
  refine ho.loopR ?_
  cbv
  repeat ((first | rw [h2] | rw [h3] | rw [c] | rw [h4] | exact ih); (try cbv))
theorem s100_out (es : List D) (nm : ByteArray) (n k : Int) (en : ByteArray) (eno : Int) (q2 q3 q5 q6 : D) (eh : Bool)
    (h2 : o.cmp .lss k n = true)
    (h3 : o.elt es k = some (.agg [.str en, .int .i64 eno, q2, q3, .bool eh, q5, q6]))
    (c : o.call 101 [.agg [.d (.str en), .d (.int .i64 eno), .d q2, .d q3, .d (.bool eh), .d q5, .d q6], .ptr (1, 0) 0] [some (.box [.d (.str nm)])] = some ⟨.d (.bool true), [some (.box [.d (.str nm)])], []⟩)
    : o.loop 10000 ⟨[.d (.lst es), .fn 101 [.ptr (19, 0) 0], .undef, .undef, .undef, .undef, .undef, .d (.int .i64 n), .d (.int .i64 k), .undef, .undef, .undef, .undef, .undef, .undef, .undef, .undef, .undef, .undef], [[], [], [], [], [], [], [], [], [], [], [], [], [], [], [], [], [], [], [], [some (.box [.d (.str nm)])]]⟩ = some (.ret, ⟨[.undef, .undef, .undef, .undef, .d (.int .i64 k), .undef, .undef, .undef, .undef, .undef, .undef, .undef, .undef, .undef, .undef, .undef, .undef, .undef, .undef], [[], [], [], [], [], [], [], [], [], [], [], [], [], [], [], [], [], [], [], [some (.box [.d (.str nm)])]]⟩) := by
  refine ho.loopR ?_
  cbv
  repeat ((first | rw [h2] | rw [h3] | rw [c]); (try cbv))
theorem s100_no (es : List D) (nm : ByteArray) (n : Int)
    (hn : o.len es = n)
    (l : o.loop 10000 ⟨[.d (.lst es), .fn 101 [.ptr (19, 0) 0], .undef, .undef, .undef, .undef, .undef, .d (.int .i64 n), .d (.int .i64 0), .undef, .undef, .undef, .undef, .undef, .undef, .undef, .undef, .undef, .undef], [[], [], [], [], [], [], [], [], [], [], [], [], [], [], [], [], [], [], [], [some (.box [.d (.str nm)])]]⟩ = some (.exit 0, ⟨[.undef, .undef, .undef, .undef, .undef, .undef, .undef, .undef, .undef, .undef, .undef, .undef, .undef, .undef, .undef, .undef, .undef, .undef, .undef], [[], [], [], [], [], [], [], [], [], [], [], [], [], [], [], [], [], [], [], [some (.box [.d (.str nm)])]]⟩))
    : o.call 100 [.d (.lst es), .fn 101 [.ptr (1, 0) 0]] [some (.box [.d (.str nm)])] = some ⟨.d (.int .i64 (-1)), [some (.box [.d (.str nm)])], []⟩ := by
  refine ho.callR ?_
  cbv
  repeat ((first | rw [hn] | rw [l]); (try cbv))
theorem s100_yes (es : List D) (nm : ByteArray) (n k : Int)
    (hn : o.len es = n)
    (l : o.loop 10000 ⟨[.d (.lst es), .fn 101 [.ptr (19, 0) 0], .undef, .undef, .undef, .undef, .undef, .d (.int .i64 n), .d (.int .i64 0), .undef, .undef, .undef, .undef, .undef, .undef, .undef, .undef, .undef, .undef], [[], [], [], [], [], [], [], [], [], [], [], [], [], [], [], [], [], [], [], [some (.box [.d (.str nm)])]]⟩ = some (.ret, ⟨[.undef, .undef, .undef, .undef, .d (.int .i64 k), .undef, .undef, .undef, .undef, .undef, .undef, .undef, .undef, .undef, .undef, .undef, .undef, .undef, .undef], [[], [], [], [], [], [], [], [], [], [], [], [], [], [], [], [], [], [], [], [some (.box [.d (.str nm)])]]⟩))
    : o.call 100 [.d (.lst es), .fn 101 [.ptr (1, 0) 0]] [some (.box [.d (.str nm)])] = some ⟨.d (.int .i64 k), [some (.box [.d (.str nm)])], []⟩ := by
  refine ho.callR ?_
  cbv
  repeat ((first | rw [hn] | rw [l]); (try cbv))
theorem s82 (es : List D) (nm : ByteArray) (k : Int)
    (c : o.call 100 [.d (.lst es), .fn 101 [.ptr (1, 0) 0]] [some (.box [.d (.str nm)])] = some ⟨.d (.int .i64 k), [some (.box [.d (.str nm)])], []⟩)
    : o.call 82 [.d (.lst es), .d (.str nm)] [] = some ⟨.d (.int .i64 k), [], []⟩ := by
  refine ho.callR ?_
  cbv
  repeat ((first | rw [c]); (try cbv))
theorem f59_none (es : List D) (nm : ByteArray) (no k : Int) (en : ByteArray) (eno : Int) (q2 q3 q5 q6 : D) (eh : Bool)
    (p : o.call 81 [.d (.lst es), .d (.str nm)] [] = some ⟨.d (.int .i64 k), [], []⟩)
    (g0 : o.cmp .lss k 0 = true)
    : o.call 59 [.d (.lst es), .d (.str nm), .d (.int .i64 no)] [] = some ⟨.tup [.agg [.d (.lst []), .d (.lst [])], .d (.bool false)], [], []⟩ := by
  refine ho.callR ?_
  cbv
  repeat ((first | rw [p] | rw [g0]); (try cbv))
theorem f59_cur (es : List D) (nm : ByteArray) (no k : Int) (en : ByteArray) (eno : Int) (q2 q3 q5 q6 : D) (eh : Bool)
    (p : o.call 81 [.d (.lst es), .d (.str nm)] [] = some ⟨.d (.int .i64 k), [], []⟩)
    (h3 : o.elt es k = some (.agg [.str en, .int .i64 eno, q2, q3, .bool eh, q5, q6]))
    (g0 : o.cmp .lss k 0 = false)
    (g1 : o.cmp .eql eno no = true)
    : o.call 59 [.d (.lst es), .d (.str nm), .d (.int .i64 no)] [] = some ⟨.tup [.agg [.d q2, .d q3], .d (.bool true)], [], []⟩ := by
  refine ho.callR ?_
  cbv
  repeat ((first | rw [p] | rw [h3] | rw [g0] | rw [g1]); (try cbv))
theorem f59_old (es : List D) (nm : ByteArray) (no k : Int) (en : ByteArray) (eno : Int) (q2 q3 q5 q6 : D)  (e1 : Int)
    (p : o.call 81 [.d (.lst es), .d (.str nm)] [] = some ⟨.d (.int .i64 k), [], []⟩)
    (h3 : o.elt es k = some (.agg [.str en, .int .i64 eno, q2, q3, .bool true, q5, q6]))
    (g0 : o.cmp .lss k 0 = false)
    (g1 : o.cmp .eql eno no = false)
    (g2 : o.ar .sub .i64 eno 1 = e1)
    (g3 : o.cmp .eql e1 no = true)
    : o.call 59 [.d (.lst es), .d (.str nm), .d (.int .i64 no)] [] = some ⟨.tup [.agg [.d q5, .d q6], .d (.bool true)], [], []⟩ := by
  refine ho.callR ?_
  cbv
  repeat ((first | rw [p] | rw [h3] | rw [g0] | rw [g1] | rw [g2] | rw [g3]); (try cbv))
theorem f59_not (es : List D) (nm : ByteArray) (no k : Int) (en : ByteArray) (eno : Int) (q2 q3 q5 q6 : D)  (e1 : Int)
    (p : o.call 81 [.d (.lst es), .d (.str nm)] [] = some ⟨.d (.int .i64 k), [], []⟩)
    (h3 : o.elt es k = some (.agg [.str en, .int .i64 eno, q2, q3, .bool true, q5, q6]))
    (g0 : o.cmp .lss k 0 = false)
    (g1 : o.cmp .eql eno no = false)
    (g2 : o.ar .sub .i64 eno 1 = e1)
    (g3 : o.cmp .eql e1 no = false)
    : o.call 59 [.d (.lst es), .d (.str nm), .d (.int .i64 no)] [] = some ⟨.tup [.agg [.d (.lst []), .d (.lst [])], .d (.bool false)], [], []⟩ := by
  refine ho.callR ?_
  cbv
  repeat ((first | rw [p] | rw [h3] | rw [g0] | rw [g1] | rw [g2] | rw [g3]); (try cbv))
theorem f59_nold (es : List D) (nm : ByteArray) (no k : Int) (en : ByteArray) (eno : Int) (q2 q3 q5 q6 : D) 
    (p : o.call 81 [.d (.lst es), .d (.str nm)] [] = some ⟨.d (.int .i64 k), [], []⟩)
    (h3 : o.elt es k = some (.agg [.str en, .int .i64 eno, q2, q3, .bool false, q5, q6]))
    (g0 : o.cmp .lss k 0 = false)
    (g1 : o.cmp .eql eno no = false)
    : o.call 59 [.d (.lst es), .d (.str nm), .d (.int .i64 no)] [] = some ⟨.tup [.agg [.d (.lst []), .d (.lst [])], .d (.bool false)], [], []⟩ := by
  refine ho.callR ?_
  cbv
  repeat ((first | rw [p] | rw [h3] | rw [g0] | rw [g1]); (try cbv))
theorem f60_none (es : List D) (nm : ByteArray) (no k : Int) (en : ByteArray) (eno : Int) (q2 q3 q5 q6 : D) (eh : Bool)
    (p : o.call 82 [.d (.lst es), .d (.str nm)] [] = some ⟨.d (.int .i64 k), [], []⟩)
    (g0 : o.cmp .lss k 0 = true)
    : o.call 60 [.d (.lst es), .d (.str nm), .d (.int .i64 no)] [] = some ⟨.nilp, [], []⟩ := by
  refine ho.callR ?_
  cbv
  repeat ((first | rw [p] | rw [g0]); (try cbv))
theorem f60_cur (es : List D) (nm : ByteArray) (no k : Int) (en : ByteArray) (eno : Int) (q2 q3 q5 q6 : D) (eh : Bool)
    (p : o.call 82 [.d (.lst es), .d (.str nm)] [] = some ⟨.d (.int .i64 k), [], []⟩)
    (h3 : o.elt es k = some (.agg [.str en, .int .i64 eno, q2, q3, .bool eh, q5, q6]))
    (g0 : o.cmp .lss k 0 = false)
    (g1 : o.cmp .eql eno no = true)
    : o.call 60 [.d (.lst es), .d (.str nm), .d (.int .i64 no)] [] = some ⟨.sp [.str en, .int .i64 eno, q2, q3, .bool eh, q5, q6] 2, [], []⟩ := by
  refine ho.callR ?_
  cbv
  repeat ((first | rw [p] | rw [h3] | rw [g0] | rw [g1]); (try cbv))
theorem f60_old (es : List D) (nm : ByteArray) (no k : Int) (en : ByteArray) (eno : Int) (q2 q3 q5 q6 : D)  (e1 : Int)
    (p : o.call 82 [.d (.lst es), .d (.str nm)] [] = some ⟨.d (.int .i64 k), [], []⟩)
    (h3 : o.elt es k = some (.agg [.str en, .int .i64 eno, q2, q3, .bool true, q5, q6]))
    (g0 : o.cmp .lss k 0 = false)
    (g1 : o.cmp .eql eno no = false)
    (g2 : o.ar .sub .i64 eno 1 = e1)
    (g3 : o.cmp .eql e1 no = true)
    : o.call 60 [.d (.lst es), .d (.str nm), .d (.int .i64 no)] [] = some ⟨.sp [.str en, .int .i64 eno, q2, q3, .bool true, q5, q6] 5, [], []⟩ := by
  refine ho.callR ?_
  cbv
  repeat ((first | rw [p] | rw [h3] | rw [g0] | rw [g1] | rw [g2] | rw [g3]); (try cbv))
theorem f60_not (es : List D) (nm : ByteArray) (no k : Int) (en : ByteArray) (eno : Int) (q2 q3 q5 q6 : D)  (e1 : Int)
    (p : o.call 82 [.d (.lst es), .d (.str nm)] [] = some ⟨.d (.int .i64 k), [], []⟩)
    (h3 : o.elt es k = some (.agg [.str en, .int .i64 eno, q2, q3, .bool true, q5, q6]))
    (g0 : o.cmp .lss k 0 = false)
    (g1 : o.cmp .eql eno no = false)
    (g2 : o.ar .sub .i64 eno 1 = e1)
    (g3 : o.cmp .eql e1 no = false)
    : o.call 60 [.d (.lst es), .d (.str nm), .d (.int .i64 no)] [] = some ⟨.nilp, [], []⟩ := by
  refine ho.callR ?_
  cbv
  repeat ((first | rw [p] | rw [h3] | rw [g0] | rw [g1] | rw [g2] | rw [g3]); (try cbv))
theorem f60_nold (es : List D) (nm : ByteArray) (no k : Int) (en : ByteArray) (eno : Int) (q2 q3 q5 q6 : D) 
    (p : o.call 82 [.d (.lst es), .d (.str nm)] [] = some ⟨.d (.int .i64 k), [], []⟩)
    (h3 : o.elt es k = some (.agg [.str en, .int .i64 eno, q2, q3, .bool false, q5, q6]))
    (g0 : o.cmp .lss k 0 = false)
    (g1 : o.cmp .eql eno no = false)
    : o.call 60 [.d (.lst es), .d (.str nm), .d (.int .i64 no)] [] = some ⟨.nilp, [], []⟩ := by
  refine ho.callR ?_
  cbv
  repeat ((first | rw [p] | rw [h3] | rw [g0] | rw [g1]); (try cbv))
theorem s27_end (c1 c3 c4 : D) (es ws : List D) (n : Int)
    (hn : o.len ws = n)
    (h2 : o.cmp .lss n n = false)
    : o.loop 2700 ⟨[.undef, .ptr (1, 0) 0, .undef, .d (.int .i64 n), .undef, .undef, .undef, .undef, .undef, .undef, .undef, .undef, .undef, .undef, .undef, .undef, .undef, .undef, .undef, .undef, .undef, .undef, .undef, .undef, .undef, .undef, .undef, .undef, .undef, .undef, .undef, .undef, .undef], [[], [some (.box [.d (.lst es), .d c1, .d (.lst ws), .d c3, .d c4])], [], [], [], [], [], [], [], [], [], [], [], [], [], [], [], [], [], [], [], [], [], [], [], [], [], [], [], [], [], [], []]⟩ = some (.exit 0, ⟨[.undef, .undef, .undef, .undef, .undef, .undef, .undef, .undef, .undef, .undef, .undef, .undef, .undef, .undef, .undef, .undef, .undef, .undef, .undef, .undef, .undef, .undef, .undef, .undef, .undef, .undef, .undef, .undef, .undef, .undef, .undef, .undef, .undef], [[], [], [], [], [], [], [], [], [], [], [], [], [], [], [], [], [], [], [], [], [], [], [], [], [], [], [], [], [], [], [], [], []]⟩) := by
  refine ho.loopR ?_
  cbv
  repeat ((first | rw [hn] | rw [h2]); (try cbv))
theorem s28_end (c1 c3 c4 : D) (es ws : List D) (n : Int)
    (h2 : o.cmp .lss n n = false)
    : o.loop 2800 ⟨[.undef, .ptr (1, 0) 0, .undef, .undef, .undef, .undef, .d (.lst ws), .d (.int .i64 n), .d (.int .i64 n), .undef, .undef, .undef, .undef, .undef, .undef, .undef, .undef, .undef, .undef, .undef, .undef], [[], [some (.box [.d (.lst es), .d c1, .d (.lst ws), .d c3, .d c4])], [], [], [], [], [], [], [], [], [], [], [], [], [], [], [], [], [], [], []]⟩ = some (.exit 0, ⟨[.undef, .undef, .undef, .undef, .undef, .undef, .undef, .undef, .undef, .undef, .undef, .undef, .undef, .undef, .undef, .undef, .undef, .undef, .undef, .undef, .undef], [[], [], [], [], [], [], [], [], [], [], [], [], [], [], [], [], [], [], [], [], []]⟩) := by
  refine ho.loopR ?_
  cbv
  repeat ((first | rw [h2]); (try cbv))
theorem s27_go (c1 c3 c4 : D) (es ws : List D) (n k k1 : Int) (d0 d1 d4 d5 d6 d7 d8 : D) (nm : ByteArray) (no : Int) (x1 x2 : D) (z : Out × St)
    (hn : o.len ws = n)
    (h2 : o.cmp .lss k n = true)
    (h3 : o.elt ws k = some (.agg [d0, d1, .str nm, .int .i64 no, d4, d5, d6, d7, d8]))
    (c : o.call 59 [.d (.lst es), .d (.str nm), .d (.int .i64 no)] [] = some ⟨.tup [.agg [.d x1, .d x2], .d (.bool true)], [], []⟩)
    (h4 : o.ar .add .i64 k 1 = k1)
    (ih : o.loop 2700 ⟨[.undef, .ptr (1, 0) 0, .undef, .d (.int .i64 k1), .undef, .undef, .undef, .undef, .undef, .undef, .undef, .undef, .undef, .undef, .undef, .undef, .undef, .undef, .undef, .undef, .undef, .undef, .undef, .undef, .undef, .undef, .undef, .undef, .undef, .undef, .undef, .undef, .undef], [[], [some (.box [.d (.lst es), .d c1, .d (.lst ws), .d c3, .d c4])], [], [], [], [], [], [], [], [], [], [], [], [], [], [], [], [], [], [], [], [], [], [], [], [], [], [], [], [], [], [], []]⟩ = some z)
    : o.loop 2700 ⟨[.undef, .ptr (1, 0) 0, .undef, .d (.int .i64 k), .undef, .undef, .undef, .undef, .undef, .undef, .undef, .undef, .undef, .undef, .undef, .undef, .undef, .undef, .undef, .undef, .undef, .undef, .undef, .undef, .undef, .undef, .undef, .undef, .undef, .undef, .undef, .undef, .undef], [[], [some (.box [.d (.lst es), .d c1, .d (.lst ws), .d c3, .d c4])], [], [], [], [], [], [], [], [], [], [], [], [], [], [], [], [], [], [], [], [], [], [], [], [], [], [], [], [], [], [], []]⟩ = some z := by
  refine ho.loopR ?_
  cbv
  repeat ((first | rw [hn] | rw [h2] | rw [h3] | rw [c] | rw [h4] | exact ih); (try cbv))
theorem s27_out (c1 c3 c4 : D) (es ws : List D) (n k : Int) (d0 d1 d4 d5 d6 d7 d8 : D) (nm : ByteArray) (no : Int) (x1 x2 : D)
    (hn : o.len ws = n)
    (h2 : o.cmp .lss k n = true)
    (h3 : o.elt ws k = some (.agg [d0, d1, .str nm, .int .i64 no, d4, d5, d6, d7, d8]))
    (c : o.call 59 [.d (.lst es), .d (.str nm), .d (.int .i64 no)] [] = some ⟨.tup [.agg [.d x1, .d x2], .d (.bool false)], [], []⟩)
    : o.loop 2700 ⟨[.undef, .ptr (1, 0) 0, .undef, .d (.int .i64 k), .undef, .undef, .undef, .undef, .undef, .undef, .undef, .undef, .undef, .undef, .undef, .undef, .undef, .undef, .undef, .undef, .undef, .undef, .undef, .undef, .undef, .undef, .undef, .undef, .undef, .undef, .undef, .undef, .undef], [[], [some (.box [.d (.lst es), .d c1, .d (.lst ws), .d c3, .d c4])], [], [], [], [], [], [], [], [], [], [], [], [], [], [], [], [], [], [], [], [], [], [], [], [], [], [], [], [], [], [], []]⟩ = some (.ret, ⟨[.undef, .undef, .d (.bool false), .undef, .undef, .undef, .undef, .undef, .undef, .undef, .undef, .undef, .undef, .undef, .undef, .undef, .undef, .undef, .undef, .undef, .undef, .undef, .undef, .undef, .undef, .undef, .undef, .undef, .undef, .undef, .undef, .undef, .undef], [[], [], [], [], [], [], [], [], [], [], [], [], [], [], [], [], [], [], [], [], [], [], [], [], [], [], [], [], [], [], [], [], []]⟩) := by
  refine ho.loopR ?_
  cbv
  repeat ((first | rw [hn] | rw [h2] | rw [h3] | rw [c]); (try cbv))
theorem s28_go (c1 c3 c4 : D) (es ws : List D) (n k k1 : Int) (d0 d1 d4 d5 d6 d7 d8 : D) (nm : ByteArray) (no : Int) (cs : List D) (off : Nat) (z : Out × St)
    (h2 : o.cmp .lss k n = true)
    (h3 : o.elt ws k = some (.agg [d0, d1, .str nm, .int .i64 no, d4, d5, d6, d7, d8]))
    (c : o.call 60 [.d (.lst es), .d (.str nm), .d (.int .i64 no)] [] = some ⟨.sp cs off, [], []⟩)
    (h4 : o.ar .add .i64 k 1 = k1)
    (ih : o.loop 2800 ⟨[.undef, .ptr (1, 0) 0, .undef, .undef, .undef, .undef, .d (.lst ws), .d (.int .i64 n), .d (.int .i64 k1), .undef, .undef, .undef, .undef, .undef, .undef, .undef, .undef, .undef, .undef, .undef, .undef], [[], [some (.box [.d (.lst es), .d c1, .d (.lst ws), .d c3, .d c4])], [], [], [], [], [], [], [], [], [], [], [], [], [], [], [], [], [], [], []]⟩ = some z)
    : o.loop 2800 ⟨[.undef, .ptr (1, 0) 0, .undef, .undef, .undef, .undef, .d (.lst ws), .d (.int .i64 n), .d (.int .i64 k), .undef, .undef, .undef, .undef, .undef, .undef, .undef, .undef, .undef, .undef, .undef, .undef], [[], [some (.box [.d (.lst es), .d c1, .d (.lst ws), .d c3, .d c4])], [], [], [], [], [], [], [], [], [], [], [], [], [], [], [], [], [], [], []]⟩ = some z := by
  refine ho.loopR ?_
  cbv
  repeat ((first | rw [h2] | rw [h3] | rw [c] | rw [h4] | exact ih); (try cbv))
theorem s28_out (c1 c3 c4 : D) (es ws : List D) (n k : Int) (d0 d1 d4 d5 d6 d7 d8 : D) (nm : ByteArray) (no : Int)
    (h2 : o.cmp .lss k n = true)
    (h3 : o.elt ws k = some (.agg [d0, d1, .str nm, .int .i64 no, d4, d5, d6, d7, d8]))
    (c : o.call 60 [.d (.lst es), .d (.str nm), .d (.int .i64 no)] [] = some ⟨.nilp, [], []⟩)
    : o.loop 2800 ⟨[.undef, .ptr (1, 0) 0, .undef, .undef, .undef, .undef, .d (.lst ws), .d (.int .i64 n), .d (.int .i64 k), .undef, .undef, .undef, .undef, .undef, .undef, .undef, .undef, .undef, .undef, .undef, .undef], [[], [some (.box [.d (.lst es), .d c1, .d (.lst ws), .d c3, .d c4])], [], [], [], [], [], [], [], [], [], [], [], [], [], [], [], [], [], [], []]⟩ = some (.ret, ⟨[.undef, .undef, .d (.bool false), .undef, .undef, .undef, .undef, .undef, .undef, .undef, .undef, .undef, .undef, .undef, .undef, .undef, .undef, .undef, .undef, .undef, .undef], [[], [], [], [], [], [], [], [], [], [], [], [], [], [], [], [], [], [], [], [], []]⟩) := by
  refine ho.loopR ?_
  cbv
  repeat ((first | rw [h2] | rw [h3] | rw [c]); (try cbv))
theorem s27_yes (c1 c3 c4 : D) (es ws : List D)
    (l : o.loop 2700 ⟨[.undef, .ptr (1, 0) 0, .undef, .d (.int .i64 0), .undef, .undef, .undef, .undef, .undef, .undef, .undef, .undef, .undef, .undef, .undef, .undef, .undef, .undef, .undef, .undef, .undef, .undef, .undef, .undef, .undef, .undef, .undef, .undef, .undef, .undef, .undef, .undef, .undef], [[], [some (.box [.d (.lst es), .d c1, .d (.lst ws), .d c3, .d c4])], [], [], [], [], [], [], [], [], [], [], [], [], [], [], [], [], [], [], [], [], [], [], [], [], [], [], [], [], [], [], []]⟩ = some (.exit 0, ⟨[.undef, .undef, .undef, .undef, .undef, .undef, .undef, .undef, .undef, .undef, .undef, .undef, .undef, .undef, .undef, .undef, .undef, .undef, .undef, .undef, .undef, .undef, .undef, .undef, .undef, .undef, .undef, .undef, .undef, .undef, .undef, .undef, .undef], [[], [], [], [], [], [], [], [], [], [], [], [], [], [], [], [], [], [], [], [], [], [], [], [], [], [], [], [], [], [], [], [], []]⟩))
    : o.call 27 [.agg [.d (.lst es), .d c1, .d (.lst ws), .d c3, .d c4]] [] = some ⟨.d (.bool true), [], []⟩ := by
  refine ho.callR ?_
  cbv
  repeat ((first | rw [l]); (try cbv))
theorem s27_no (c1 c3 c4 : D) (es ws : List D)
    (l : o.loop 2700 ⟨[.undef, .ptr (1, 0) 0, .undef, .d (.int .i64 0), .undef, .undef, .undef, .undef, .undef, .undef, .undef, .undef, .undef, .undef, .undef, .undef, .undef, .undef, .undef, .undef, .undef, .undef, .undef, .undef, .undef, .undef, .undef, .undef, .undef, .undef, .undef, .undef, .undef], [[], [some (.box [.d (.lst es), .d c1, .d (.lst ws), .d c3, .d c4])], [], [], [], [], [], [], [], [], [], [], [], [], [], [], [], [], [], [], [], [], [], [], [], [], [], [], [], [], [], [], []]⟩ = some (.ret, ⟨[.undef, .undef, .d (.bool false), .undef, .undef, .undef, .undef, .undef, .undef, .undef, .undef, .undef, .undef, .undef, .undef, .undef, .undef, .undef, .undef, .undef, .undef, .undef, .undef, .undef, .undef, .undef, .undef, .undef, .undef, .undef, .undef, .undef, .undef], [[], [], [], [], [], [], [], [], [], [], [], [], [], [], [], [], [], [], [], [], [], [], [], [], [], [], [], [], [], [], [], [], []]⟩))
    : o.call 27 [.agg [.d (.lst es), .d c1, .d (.lst ws), .d c3, .d c4]] [] = some ⟨.d (.bool false), [], []⟩ := by
  refine ho.callR ?_
  cbv
  repeat ((first | rw [l]); (try cbv))
theorem s28_yes (c1 c3 c4 : D) (es ws : List D) (n : Int)
    (hn : o.len ws = n)
    (l : o.loop 2800 ⟨[.undef, .ptr (1, 0) 0, .undef, .undef, .undef, .undef, .d (.lst ws), .d (.int .i64 n), .d (.int .i64 0), .undef, .undef, .undef, .undef, .undef, .undef, .undef, .undef, .undef, .undef, .undef, .undef], [[], [some (.box [.d (.lst es), .d c1, .d (.lst ws), .d c3, .d c4])], [], [], [], [], [], [], [], [], [], [], [], [], [], [], [], [], [], [], []]⟩ = some (.exit 0, ⟨[.undef, .undef, .undef, .undef, .undef, .undef, .undef, .undef, .undef, .undef, .undef, .undef, .undef, .undef, .undef, .undef, .undef, .undef, .undef, .undef, .undef], [[], [], [], [], [], [], [], [], [], [], [], [], [], [], [], [], [], [], [], [], []]⟩))
    : o.call 28 [.agg [.d (.lst es), .d c1, .d (.lst ws), .d c3, .d c4]] [] = some ⟨.d (.bool true), [], []⟩ := by
  refine ho.callR ?_
  cbv
  repeat ((first | rw [hn] | rw [l]); (try cbv))
theorem s28_no (c1 c3 c4 : D) (es ws : List D) (n : Int)
    (hn : o.len ws = n)
    (l : o.loop 2800 ⟨[.undef, .ptr (1, 0) 0, .undef, .undef, .undef, .undef, .d (.lst ws), .d (.int .i64 n), .d (.int .i64 0), .undef, .undef, .undef, .undef, .undef, .undef, .undef, .undef, .undef, .undef, .undef, .undef], [[], [some (.box [.d (.lst es), .d c1, .d (.lst ws), .d c3, .d c4])], [], [], [], [], [], [], [], [], [], [], [], [], [], [], [], [], [], [], []]⟩ = some (.ret, ⟨[.undef, .undef, .d (.bool false), .undef, .undef, .undef, .undef, .undef, .undef, .undef, .undef, .undef, .undef, .undef, .undef, .undef, .undef, .undef, .undef, .undef, .undef], [[], [], [], [], [], [], [], [], [], [], [], [], [], [], [], [], [], [], [], [], []]⟩))
    : o.call 28 [.agg [.d (.lst es), .d c1, .d (.lst ws), .d c3, .d c4]] [] = some ⟨.d (.bool false), [], []⟩ := by
  refine ho.callR ?_
  cbv
  repeat ((first | rw [hn] | rw [l]); (try cbv))
theorem place81 (es : List D) (nm : ByteArray) (hm : ((es.length : Nat) : Int) ≤ 9223372036854775807) (hx : ∀ x ∈ es, isEntry x) : o.call 81 [.d (.lst es), .d (.str nm)] [] = some ⟨.d (.int .i64 (placeOf o es nm)), [], []⟩ := by
  have hn := ho.len es
  obtain ⟨n, hN⟩ : ∃ n, ((es.length : Nat) : Int) = n := ⟨_, rfl⟩
  rw [hN] at hn hm
  have l := loop_listI (o := o) 8100 (fun k (_ : Unit) => ⟨[.d (.lst es), .d (.str nm), .undef, .undef, .undef, .d (.int .i64 k), .undef, .undef, .undef, .undef, .undef, .undef, .undef, .undef, .undef, .undef, .undef, .undef, .undef, .undef], [[], [], [], [], [], [], [], [], [], [], [], [], [], [], [], [], [], [], [], []]⟩) es n hN (named o nm) (fun _ => (.exit 0, ⟨[.undef, .undef, .undef, .undef, .undef, .undef, .undef, .undef, .undef, .undef, .undef, .undef, .undef, .undef, .undef, .undef, .undef, .undef, .undef, .undef], [[], [], [], [], [], [], [], [], [], [], [], [], [], [], [], [], [], [], [], []]⟩)) (fun k => (.ret, ⟨[.undef, .undef, .undef, .undef, .d (.int .i64 k), .undef, .undef, .undef, .undef, .undef, .undef, .undef, .undef, .undef, .undef, .undef, .undef, .undef, .undef, .undef], [[], [], [], [], [], [], [], [], [], [], [], [], [], [], [], [], [], [], [], []]⟩))
    (fun _ => s81_end ho es nm n hn (lt_no ho n))
    (fun k a x a1 h0 h1 hk he z ih => by
      obtain ⟨en, eno, q2, q3, eh, q5, q6, rfl⟩ := hx x (List.mem_of_getElem? hk)
      simp only [named] at he
      cases hs : o.sCmp .eql en nm with
      | true => rw [hs] at he; cases he
      | false => exact s81_go ho es nm n k (k + 1) en eno q2 q3 q5 q6 eh z hn (lt_yes ho h1) (elt_some ho es k _ h0 hk) hs (inc ho h0 h1 hm) ih)
    (fun k a x e h0 h1 hk he => by
      obtain ⟨en, eno, q2, q3, eh, q5, q6, rfl⟩ := hx x (List.mem_of_getElem? hk)
      simp only [named] at he
      cases hs : o.sCmp .eql en nm with
      | false => rw [hs] at he; cases he
      | true =>
        rw [hs] at he
        injection he with he
        subst he
        exact s81_out ho es nm n k en eno q2 q3 q5 q6 eh hn (lt_yes ho h1) (elt_some ho es k _ h0 hk) hs) ()
  unfold placeOf
  unfold foldJ at l ⊢
  cases hf : foldI (named o nm) 0 () es with
  | ok u => rw [hf] at l; exact s81_no ho es nm l
  | error k => rw [hf] at l; exact s81_yes ho es nm k l
theorem place82 (es : List D) (nm : ByteArray) (hm : ((es.length : Nat) : Int) ≤ 9223372036854775807) (hx : ∀ x ∈ es, isEntry x) : o.call 82 [.d (.lst es), .d (.str nm)] [] = some ⟨.d (.int .i64 (placeOf o es nm)), [], []⟩ := by
  have hn := ho.len es
  obtain ⟨n, hN⟩ : ∃ n, ((es.length : Nat) : Int) = n := ⟨_, rfl⟩
  rw [hN] at hn hm
  have l := loop_listI (o := o) 10000 (fun k (_ : Unit) => ⟨[.d (.lst es), .fn 101 [.ptr (19, 0) 0], .undef, .undef, .undef, .undef, .undef, .d (.int .i64 n), .d (.int .i64 k), .undef, .undef, .undef, .undef, .undef, .undef, .undef, .undef, .undef, .undef], [[], [], [], [], [], [], [], [], [], [], [], [], [], [], [], [], [], [], [], [some (.box [.d (.str nm)])]]⟩) es n hN (named o nm) (fun _ => (.exit 0, ⟨[.undef, .undef, .undef, .undef, .undef, .undef, .undef, .undef, .undef, .undef, .undef, .undef, .undef, .undef, .undef, .undef, .undef, .undef, .undef], [[], [], [], [], [], [], [], [], [], [], [], [], [], [], [], [], [], [], [], [some (.box [.d (.str nm)])]]⟩)) (fun k => (.ret, ⟨[.undef, .undef, .undef, .undef, .d (.int .i64 k), .undef, .undef, .undef, .undef, .undef, .undef, .undef, .undef, .undef, .undef, .undef, .undef, .undef, .undef], [[], [], [], [], [], [], [], [], [], [], [], [], [], [], [], [], [], [], [], [some (.box [.d (.str nm)])]]⟩))
    (fun _ => s100_end ho es nm n (lt_no ho n))
    (fun k a x a1 h0 h1 hk he z ih => by
      obtain ⟨en, eno, q2, q3, eh, q5, q6, rfl⟩ := hx x (List.mem_of_getElem? hk)
      simp only [named] at he
      cases hs : o.sCmp .eql en nm with
      | true => rw [hs] at he; cases he
      | false => exact s100_go ho es nm n k (k + 1) en eno q2 q3 q5 q6 eh z (lt_yes ho h1) (elt_some ho es k _ h0 hk) (e101 ho en eno q2 q3 q5 q6 eh nm false hs) (inc ho h0 h1 hm) ih)
    (fun k a x e h0 h1 hk he => by
      obtain ⟨en, eno, q2, q3, eh, q5, q6, rfl⟩ := hx x (List.mem_of_getElem? hk)
      simp only [named] at he
      cases hs : o.sCmp .eql en nm with
      | false => rw [hs] at he; cases he
      | true =>
        rw [hs] at he
        injection he with he
        subst he
        exact s100_out ho es nm n k en eno q2 q3 q5 q6 eh (lt_yes ho h1) (elt_some ho es k _ h0 hk) (e101 ho en eno q2 q3 q5 q6 eh nm true hs)) ()
  refine s82 ho es nm _ ?_
  unfold placeOf
  unfold foldJ at l ⊢
  cases hf : foldI (named o nm) 0 () es with
  | ok u => rw [hf] at l; exact s100_no ho es nm n hn l
  | error k => rw [hf] at l; exact s100_yes ho es nm n k hn l
omit ho in
theorem place_in (es : List D) (nm : ByteArray) (h : ¬ placeOf o es nm < 0) : ∃ x, es[(placeOf o es nm).toNat]? = some x := by
  unfold placeOf foldJ at h ⊢
  cases hf : foldI (named o nm) 0 () es with
  | ok u => rw [hf] at h; exact absurd (show (-1 : Int) < 0 by decide) h
  | error k =>
    obtain ⟨j, x, a', h1, h2, h3⟩ := foldI_err (k := 0) hf
    have : k = (j : Int) := by
      unfold named at h3
      split at h3
      · split at h3
        · injection h3 with h3; exact h3.symm
        · cases h3
      · cases h3
    simp only
    subst this
    exact ⟨x, by simpa using h2⟩
/-- Both ways to look a worker's code up come to the same. -/
theorem code_both (es : List D) (nm : ByteArray) (no : Int) (hm : ((es.length : Nat) : Int) ≤ 9223372036854775807) (hx : ∀ x ∈ es, isEntry x) (d0 d1 d4 d5 d6 d7 d8 : D) :
    (∃ x1 x2, o.call 59 [.d (.lst es), .d (.str nm), .d (.int .i64 no)] [] = some ⟨.tup [.agg [.d x1, .d x2], .d (.bool (hasCode o es (.agg [d0, d1, .str nm, .int .i64 no, d4, d5, d6, d7, d8])))], [], []⟩) ∧
    ((hasCode o es (.agg [d0, d1, .str nm, .int .i64 no, d4, d5, d6, d7, d8]) = true ∧ ∃ cs off, o.call 60 [.d (.lst es), .d (.str nm), .d (.int .i64 no)] [] = some ⟨.sp cs off, [], []⟩) ∨
     (hasCode o es (.agg [d0, d1, .str nm, .int .i64 no, d4, d5, d6, d7, d8]) = false ∧ o.call 60 [.d (.lst es), .d (.str nm), .d (.int .i64 no)] [] = some ⟨.nilp, [], []⟩)) := by
  have p1 := place81 ho es nm hm hx
  have p2 := place82 ho es nm hm hx
  simp only [hasCode]
  by_cases hneg : placeOf o es nm < 0
  · have g0 : o.cmp .lss (placeOf o es nm) 0 = true := lss1 ho hneg
    rw [decide_eq_true hneg]
    exact ⟨⟨_, _, f59_none ho es nm no _ nm 0 (.bool true) (.bool true) (.bool true) (.bool true) true p1 g0⟩, .inr ⟨rfl, f60_none ho es nm no _ nm 0 (.bool true) (.bool true) (.bool true) (.bool true) true p2 g0⟩⟩
  · obtain ⟨x, hxk⟩ := place_in es nm hneg
    have g0 : o.cmp .lss (placeOf o es nm) 0 = false := lss0 ho (by omega)
    have h3 := elt_some ho es (placeOf o es nm) x (by omega) hxk
    rw [decide_eq_false hneg, hxk]
    obtain ⟨en, eno, q2, q3, eh, q5, q6, rfl⟩ := hx x (List.mem_of_getElem? hxk)
    simp only [there]
    cases g1 : o.cmp .eql eno no with
    | true => exact ⟨⟨_, _, f59_cur ho es nm no _ en eno q2 q3 q5 q6 eh p1 h3 g0 g1⟩, .inl ⟨rfl, _, _, f60_cur ho es nm no _ en eno q2 q3 q5 q6 eh p2 h3 g0 g1⟩⟩
    | false =>
      cases eh with
      | false => exact ⟨⟨_, _, f59_nold ho es nm no _ en eno q2 q3 q5 q6 p1 h3 g0 g1⟩, .inr ⟨rfl, f60_nold ho es nm no _ en eno q2 q3 q5 q6 p2 h3 g0 g1⟩⟩
      | true =>
        cases g3 : o.cmp .eql (o.ar .sub .i64 eno 1) no with
        | true => exact ⟨⟨_, _, by simp only; exact f59_old ho es nm no _ en eno q2 q3 q5 q6 _ p1 h3 g0 g1 rfl g3⟩, .inl ⟨rfl, _, _, f60_old ho es nm no _ en eno q2 q3 q5 q6 _ p2 h3 g0 g1 rfl g3⟩⟩
        | false => exact ⟨⟨_, _, by simp only; exact f59_not ho es nm no _ en eno q2 q3 q5 q6 _ p1 h3 g0 g1 rfl g3⟩, .inr ⟨rfl, f60_not ho es nm no _ en eno q2 q3 q5 q6 _ p2 h3 g0 g1 rfl g3⟩⟩
theorem codeThere_both (c1 c3 c4 : D) (es ws : List D) (hm : ((es.length : Nat) : Int) ≤ 9223372036854775807) (hx : ∀ x ∈ es, isEntry x) (hw : ((ws.length : Nat) : Int) ≤ 9223372036854775807)
    (hy : ∀ x ∈ ws, ∃ d0 d1 d4 d5 d6 d7 d8 nm no, x = .agg [d0, d1, .str nm, .int .i64 no, d4, d5, d6, d7, d8]) :
    ∃ v, o.call 27 [.agg [.d (.lst es), .d c1, .d (.lst ws), .d c3, .d c4]] [] = some ⟨.d (.bool v), [], []⟩ ∧ o.call 28 [.agg [.d (.lst es), .d c1, .d (.lst ws), .d c3, .d c4]] [] = some ⟨.d (.bool v), [], []⟩ := by
  have hn := ho.len ws
  obtain ⟨n, hN⟩ : ∃ n, ((ws.length : Nat) : Int) = n := ⟨_, rfl⟩
  rw [hN] at hn hw
  let f : Unit → D → Except Unit Unit := fun _ x => match hasCode o es x with | true => .ok () | false => .error ()
  have l1 := loop_list (o := o) 2700 (fun k (_ : Unit) => ⟨[.undef, .ptr (1, 0) 0, .undef, .d (.int .i64 k), .undef, .undef, .undef, .undef, .undef, .undef, .undef, .undef, .undef, .undef, .undef, .undef, .undef, .undef, .undef, .undef, .undef, .undef, .undef, .undef, .undef, .undef, .undef, .undef, .undef, .undef, .undef, .undef, .undef], [[], [some (.box [.d (.lst es), .d c1, .d (.lst ws), .d c3, .d c4])], [], [], [], [], [], [], [], [], [], [], [], [], [], [], [], [], [], [], [], [], [], [], [], [], [], [], [], [], [], [], []]⟩) ws n hN f (fun _ => (.exit 0, ⟨[.undef, .undef, .undef, .undef, .undef, .undef, .undef, .undef, .undef, .undef, .undef, .undef, .undef, .undef, .undef, .undef, .undef, .undef, .undef, .undef, .undef, .undef, .undef, .undef, .undef, .undef, .undef, .undef, .undef, .undef, .undef, .undef, .undef], [[], [], [], [], [], [], [], [], [], [], [], [], [], [], [], [], [], [], [], [], [], [], [], [], [], [], [], [], [], [], [], [], []]⟩)) (fun _ => (.ret, ⟨[.undef, .undef, .d (.bool false), .undef, .undef, .undef, .undef, .undef, .undef, .undef, .undef, .undef, .undef, .undef, .undef, .undef, .undef, .undef, .undef, .undef, .undef, .undef, .undef, .undef, .undef, .undef, .undef, .undef, .undef, .undef, .undef, .undef, .undef], [[], [], [], [], [], [], [], [], [], [], [], [], [], [], [], [], [], [], [], [], [], [], [], [], [], [], [], [], [], [], [], [], []]⟩))
    (fun _ => s27_end ho c1 c3 c4 es ws n hn (lt_no ho n))
    (fun k a x a1 h0 h1 hk he z ih => by
      obtain ⟨d0, d1, d4, d5, d6, d7, d8, nm, no, rfl⟩ := hy x (List.mem_of_getElem? hk)
      obtain ⟨⟨x1, x2, c⟩, _⟩ := code_both ho es nm no hm hx d0 d1 d4 d5 d6 d7 d8
      simp only [f] at he
      revert he c
      cases hasCode o es (.agg [d0, d1, .str nm, .int .i64 no, d4, d5, d6, d7, d8]) with
      | false => intro he c; cases he
      | true => intro he c; exact s27_go ho c1 c3 c4 es ws n k (k + 1) d0 d1 d4 d5 d6 d7 d8 nm no x1 x2 z hn (lt_yes ho h1) (elt_some ho ws k _ h0 hk) c (inc ho h0 h1 hw) ih)
    (fun k a x e h0 h1 hk he => by
      obtain ⟨d0, d1, d4, d5, d6, d7, d8, nm, no, rfl⟩ := hy x (List.mem_of_getElem? hk)
      obtain ⟨⟨x1, x2, c⟩, _⟩ := code_both ho es nm no hm hx d0 d1 d4 d5 d6 d7 d8
      simp only [f] at he
      revert he c
      cases hasCode o es (.agg [d0, d1, .str nm, .int .i64 no, d4, d5, d6, d7, d8]) with
      | true => intro he c; cases he
      | false => intro he c; exact s27_out ho c1 c3 c4 es ws n k d0 d1 d4 d5 d6 d7 d8 nm no x1 x2 hn (lt_yes ho h1) (elt_some ho ws k _ h0 hk) c) ()
  have l2 := loop_list (o := o) 2800 (fun k (_ : Unit) => ⟨[.undef, .ptr (1, 0) 0, .undef, .undef, .undef, .undef, .d (.lst ws), .d (.int .i64 n), .d (.int .i64 k), .undef, .undef, .undef, .undef, .undef, .undef, .undef, .undef, .undef, .undef, .undef, .undef], [[], [some (.box [.d (.lst es), .d c1, .d (.lst ws), .d c3, .d c4])], [], [], [], [], [], [], [], [], [], [], [], [], [], [], [], [], [], [], []]⟩) ws n hN f (fun _ => (.exit 0, ⟨[.undef, .undef, .undef, .undef, .undef, .undef, .undef, .undef, .undef, .undef, .undef, .undef, .undef, .undef, .undef, .undef, .undef, .undef, .undef, .undef, .undef], [[], [], [], [], [], [], [], [], [], [], [], [], [], [], [], [], [], [], [], [], []]⟩)) (fun _ => (.ret, ⟨[.undef, .undef, .d (.bool false), .undef, .undef, .undef, .undef, .undef, .undef, .undef, .undef, .undef, .undef, .undef, .undef, .undef, .undef, .undef, .undef, .undef, .undef], [[], [], [], [], [], [], [], [], [], [], [], [], [], [], [], [], [], [], [], [], []]⟩))
    (fun _ => s28_end ho c1 c3 c4 es ws n (lt_no ho n))
    (fun k a x a1 h0 h1 hk he z ih => by
      obtain ⟨d0, d1, d4, d5, d6, d7, d8, nm, no, rfl⟩ := hy x (List.mem_of_getElem? hk)
      obtain ⟨_, ⟨hb, cs, off, c⟩ | ⟨hb, c⟩⟩ := code_both ho es nm no hm hx d0 d1 d4 d5 d6 d7 d8
      · exact s28_go ho c1 c3 c4 es ws n k (k + 1) d0 d1 d4 d5 d6 d7 d8 nm no cs off z (lt_yes ho h1) (elt_some ho ws k _ h0 hk) c (inc ho h0 h1 hw) ih
      · simp only [f, hb] at he; cases he)
    (fun k a x e h0 h1 hk he => by
      obtain ⟨d0, d1, d4, d5, d6, d7, d8, nm, no, rfl⟩ := hy x (List.mem_of_getElem? hk)
      obtain ⟨_, ⟨hb, cs, off, c⟩ | ⟨hb, c⟩⟩ := code_both ho es nm no hm hx d0 d1 d4 d5 d6 d7 d8
      · simp only [f, hb] at he; cases he
      · exact s28_out ho c1 c3 c4 es ws n k d0 d1 d4 d5 d6 d7 d8 nm no (lt_yes ho h1) (elt_some ho ws k _ h0 hk) c) ()
  unfold foldR at l1 l2
  cases hf : foldE f () ws with
  | ok u => rw [hf] at l1 l2; exact ⟨true, s27_yes ho c1 c3 c4 es ws l1, s28_yes ho c1 c3 c4 es ws n hn l2⟩
  | error u => rw [hf] at l1 l2; exact ⟨false, s27_no ho c1 c3 c4 es ws l1, s28_no ho c1 c3 c4 es ws n hn l2⟩
theorem codeThere_law {n : Nat} {ds : List D} (h : Fits Try.prog n 40 ds) : o.call 8 [.agg (ds.map .d)] [] = some ⟨.d (.bool true), [], []⟩ := by
  refine CodeThere_join ho h fun _ => ?_
  cases n with
  | zero => simp [Fits] at h
  | succ n =>
    obtain ⟨c0, c1, c2, c3, c4, rfl, h0, h1, h2, h3, h4⟩ := fits40 h
    obtain ⟨es, m, em, e, hl, hx⟩ := fits_lst Try.underlying36 h0
    injection e with e
    subst e
    obtain ⟨ws, m', em', e, hl', hx'⟩ := fits_lst Try.underlying38 h2
    injection e with e
    subst e
    subst em
    injection em' with em'
    subst em'
    refine codeThere_both ho c1 c3 c4 es ws (by unfold maxLen at hl; omega) (fun x hm => ?_) (by unfold maxLen at hl'; omega) fun x hm => ?_
    · obtain ⟨f1, f2⟩ := hx x hm
      rw [show aggT Try.prog 111 = true by unfold aggT; rw [Try.underlying111]] at f2
      cases m with
      | zero => simp [Fits] at f1
      | succ m =>
        obtain ⟨d0, d1, d2, d3, d4, d5, d6, e1, g0, g1, g2, g3, g4⟩ := fits111 f1
        obtain ⟨en, e2, _⟩ := fits_str Try.underlying9 g0
        injection e2 with e2
        subst e2
        obtain ⟨eno, e2, _⟩ := fits_int Try.underlying3 g1
        injection e2 with e2
        subst e2
        obtain ⟨eh, e2⟩ := fits_bool Try.underlying4 g3
        injection e2 with e2
        subst e2
        exact ⟨en, eno, d2, d3, eh, d5, d6, by rw [many_agg f2, e1]⟩
    · obtain ⟨f1, f2⟩ := hx' x hm
      rw [show aggT Try.prog 114 = true by unfold aggT; rw [Try.underlying114]] at f2
      cases m with
      | zero => simp [Fits] at f1
      | succ m =>
        obtain ⟨d0, d1, d2, d3, d4, d5, d6, d7, d8, e1, g0, g1, g2, g3, g4, g5⟩ := fits114 f1
        obtain ⟨nm, e2, _⟩ := fits_str Try.underlying9 g2
        injection e2 with e2
        subst e2
        obtain ⟨no, e2, _⟩ := fits_int Try.underlying3 g3
        injection e2 with e2
        subst e2
        exact ⟨d0, d1, d4, d5, d6, d7, d8, nm, no, by rw [many_agg f2, e1]⟩
end T1
