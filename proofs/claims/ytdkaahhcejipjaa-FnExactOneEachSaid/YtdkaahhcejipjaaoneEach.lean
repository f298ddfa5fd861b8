import Derived.Test.YtdkaahhcejipjaaD5
import Derived.Test.YtdkaahhcejipjaaVi32
import Derived.Test.YtdkaahhcejipjaaProg
import Derived.KernelRfl
set_option linter.unusedVariables false
set_option linter.unusedSimpArgs false
open Go Go.Vi Go.Proofs
namespace T1
set_option maxRecDepth 100000
set_option maxHeartbeats 4000000
set_option linter.unusedVariables false
def isOver (x : D) : Prop := ∃ o0 o1 o2 o3 o5 o6 ps, x = .agg [o0, o1, o2, o3, .lst ps, o5, o6] ∧ ((ps.length : Nat) : Int) ≤ 9223372036854775807 ∧ ∀ y ∈ ps, ∃ p, y = .int .i64 p
def isWorker (x : D) : Prop := ∃ pd nm w2 w3 w4 w5 w6 w7 w8, x = .agg [.int .i64 pd, .str nm, w2, w3, w4, w5, w6, w7, w8]
def isPid (o : Ora) (v : Int) (k : Int) (_ : Unit) : D → Except Int Unit
  | .int _ p => match o.cmp .eql v p with
    | true => .error k
    | false => .ok ()
  | _ => .ok ()
def hasPid (o : Ora) (v : Int) (ps : List D) : Bool := foldJ (isPid o v) (fun _ => false) (fun _ => true) () ps
def isUp (o : Ora) (v : Int) (k : Int) (_ : Unit) : D → Except Int Unit
  | .agg [_, _, _, _, .lst ps, _, _] => match hasPid o v ps with
    | true => .error k
    | false => .ok ()
  | _ => .ok ()
def hasUp (o : Ora) (v : Int) (vs : List D) : Bool := foldJ (isUp o v) (fun _ => false) (fun _ => true) () vs
def clash (o : Ora) (pd : Int) (nm : ByteArray) (_ : Unit) : D → Except Unit Unit
  | .agg (.int _ yd :: .str ym :: _) => match o.cmp .eql yd pd with
    | true => .error ()
    | false => match o.sCmp .eql ym nm with
      | true => .error ()
      | false => .ok ()
  | _ => .ok ()
def alone (o : Ora) (ws : List D) (i : Int) (pd : Int) (nm : ByteArray) : Bool := foldR (clash o pd nm) (fun _ => true) (fun _ => false) () (ws.take i.toNat)
def oneOk (o : Ora) (vs ws : List D) (i : Int) (_ : Unit) : D → Except Unit Unit
  | .agg (.int _ pd :: .str nm :: _) => match hasUp o pd vs, alone o ws i pd nm with
    | true, true => .ok ()
    | _, _ => .error ()
  | _ => .ok ()
theorem isPid_err {o : Ora} {v e : Int} {ps : List D} (h : foldI (isPid o v) 0 () ps = .error e) : 0 ≤ e := by
  obtain ⟨j, x, a', h1, h2, h3⟩ := foldI_err (k := 0) h
  unfold isPid at h3
  split at h3
  · split at h3
    · injection h3 with h3; omega
    · cases h3
  · cases h3
theorem isUp_err {o : Ora} {v e : Int} {vs : List D} (h : foldI (isUp o v) 0 () vs = .error e) : 0 ≤ e := by
  obtain ⟨j, x, a', h1, h2, h3⟩ := foldI_err (k := 0) h
  unfold isUp at h3
  split at h3
  · split at h3
    · injection h3 with h3; omega
    · cases h3
  · cases h3
variable {o : Ora} (ho : IsDen vfun vloop o)
include ho
theorem s80_end (ps : List D) (v : Int) (n : Int)
    (h2 : o.cmp .lss n n = false)
    : o.loop 8000 ⟨[.d (.lst ps), .d (.int .i64 v), .undef, .undef, .undef, .undef, .undef, .d (.int .i64 n), .d (.int .i64 n), .undef, .undef, .undef, .undef, .undef, .undef, .undef, .undef, .undef, .undef], [[], [], [], [], [], [], [], [], [], [], [], [], [], [], [], [], [], [], []]⟩ = some (.exit 0, ⟨[.undef, .undef, .undef, .undef, .undef, .undef, .undef, .undef, .undef, .undef, .undef, .undef, .undef, .undef, .undef, .undef, .undef, .undef, .undef], [[], [], [], [], [], [], [], [], [], [], [], [], [], [], [], [], [], [], []]⟩) := by
  refine ho.loopR ?_
  cbv
  repeat ((first | rw [h2]); (try cbv))
theorem s80_go (ps : List D) (v : Int) (n k k1 p : Int) (z : Out × St)
    (h2 : o.cmp .lss k n = true)
    (h3 : o.elt ps k = some (.int .i64 p))
    (h5 : o.cmp .eql v p = false)
    (h4 : o.ar .add .i64 k 1 = k1)
    (ih : o.loop 8000 ⟨[.d (.lst ps), .d (.int .i64 v), .undef, .undef, .undef, .undef, .undef, .d (.int .i64 n), .d (.int .i64 k1), .undef, .undef, .undef, .undef, .undef, .undef, .undef, .undef, .undef, .undef], [[], [], [], [], [], [], [], [], [], [], [], [], [], [], [], [], [], [], []]⟩ = some z)
    : o.loop 8000 ⟨[.d (.lst ps), .d (.int .i64 v), .undef, .undef, .undef, .undef, .undef, .d (.int .i64 n), .d (.int .i64 k), .undef, .undef, .undef, .undef, .undef, .undef, .undef, .undef, .undef, .undef], [[], [], [], [], [], [], [], [], [], [], [], [], [], [], [], [], [], [], []]⟩ = some z := by
  refine ho.loopR ?_
  cbv
  repeat ((first | rw [h2] | rw [h3] | rw [h5] | rw [h4] | exact ih); (try cbv))
theorem s80_out (ps : List D) (v : Int) (n k p : Int)
    (h2 : o.cmp .lss k n = true)
    (h3 : o.elt ps k = some (.int .i64 p))
    (h5 : o.cmp .eql v p = true)
    : o.loop 8000 ⟨[.d (.lst ps), .d (.int .i64 v), .undef, .undef, .undef, .undef, .undef, .d (.int .i64 n), .d (.int .i64 k), .undef, .undef, .undef, .undef, .undef, .undef, .undef, .undef, .undef, .undef], [[], [], [], [], [], [], [], [], [], [], [], [], [], [], [], [], [], [], []]⟩ = some (.ret, ⟨[.undef, .undef, .undef, .undef, .d (.int .i64 k), .undef, .undef, .undef, .undef, .undef, .undef, .undef, .undef, .undef, .undef, .undef, .undef, .undef, .undef], [[], [], [], [], [], [], [], [], [], [], [], [], [], [], [], [], [], [], []]⟩) := by
  refine ho.loopR ?_
  cbv
  repeat ((first | rw [h2] | rw [h3] | rw [h5]); (try cbv))
theorem s80_no (ps : List D) (v : Int) (n : Int)
    (hn : o.len ps = n)
    (l : o.loop 8000 ⟨[.d (.lst ps), .d (.int .i64 v), .undef, .undef, .undef, .undef, .undef, .d (.int .i64 n), .d (.int .i64 0), .undef, .undef, .undef, .undef, .undef, .undef, .undef, .undef, .undef, .undef], [[], [], [], [], [], [], [], [], [], [], [], [], [], [], [], [], [], [], []]⟩ = some (.exit 0, ⟨[.undef, .undef, .undef, .undef, .undef, .undef, .undef, .undef, .undef, .undef, .undef, .undef, .undef, .undef, .undef, .undef, .undef, .undef, .undef], [[], [], [], [], [], [], [], [], [], [], [], [], [], [], [], [], [], [], []]⟩))
    : o.call 80 [.d (.lst ps), .d (.int .i64 v)] [] = some ⟨.d (.int .i64 (-1)), [], []⟩ := by
  refine ho.callR ?_
  cbv
  repeat ((first | rw [hn] | rw [l]); (try cbv))
theorem s80_yes (ps : List D) (v : Int) (n k : Int)
    (hn : o.len ps = n)
    (l : o.loop 8000 ⟨[.d (.lst ps), .d (.int .i64 v), .undef, .undef, .undef, .undef, .undef, .d (.int .i64 n), .d (.int .i64 0), .undef, .undef, .undef, .undef, .undef, .undef, .undef, .undef, .undef, .undef], [[], [], [], [], [], [], [], [], [], [], [], [], [], [], [], [], [], [], []]⟩ = some (.ret, ⟨[.undef, .undef, .undef, .undef, .d (.int .i64 k), .undef, .undef, .undef, .undef, .undef, .undef, .undef, .undef, .undef, .undef, .undef, .undef, .undef, .undef], [[], [], [], [], [], [], [], [], [], [], [], [], [], [], [], [], [], [], []]⟩))
    : o.call 80 [.d (.lst ps), .d (.int .i64 v)] [] = some ⟨.d (.int .i64 k), [], []⟩ := by
  refine ho.callR ?_
  cbv
  repeat ((first | rw [hn] | rw [l]); (try cbv))
theorem s58 (ps : List D) (v : Int) (k : Int) (b : Bool)
    (c : o.call 80 [.d (.lst ps), .d (.int .i64 v)] [] = some ⟨.d (.int .i64 k), [], []⟩)
    (g : o.cmp .geq k 0 = b)
    : o.call 58 [.d (.lst ps), .d (.int .i64 v)] [] = some ⟨.d (.bool b), [], []⟩ := by
  refine ho.callR ?_
  cbv
  repeat ((first | rw [c] | rw [g]); (try cbv))
theorem s57 (o0 o1 o2 o3 o5 o6 : D) (ps : List D) (pd : Int) (nm : ByteArray) (w2 w3 w4 w5 w6 w7 w8 : D) (b : Bool)
    (c : o.call 58 [.d (.lst ps), .d (.int .i64 pd)] [] = some ⟨.d (.bool b), [], []⟩)
    : o.call 57 [.agg [.d o0, .d o1, .d o2, .d o3, .d (.lst ps), .d o5, .d o6], .ptr (1, 0) 0] [some (.box [.d (.int .i64 pd), .d (.str nm), .d w2, .d w3, .d w4, .d w5, .d w6, .d w7, .d w8])] = some ⟨.d (.bool b), [some (.box [.d (.int .i64 pd), .d (.str nm), .d w2, .d w3, .d w4, .d w5, .d w6, .d w7, .d w8])], []⟩ := by
  refine ho.callR ?_
  cbv
  repeat ((first | rw [c]); (try cbv))
theorem s79_end (vs : List D) (pd : Int) (nm : ByteArray) (w2 w3 w4 w5 w6 w7 w8 : D) (n : Int)
    (h2 : o.cmp .lss n n = false)
    : o.loop 7900 ⟨[.d (.lst vs), .fn 57 [.ptr (19, 0) 0], .undef, .undef, .undef, .undef, .undef, .d (.int .i64 n), .d (.int .i64 n), .undef, .undef, .undef, .undef, .undef, .undef, .undef, .undef, .undef, .undef], [[], [], [], [], [], [], [], [], [], [], [], [], [], [], [], [], [], [], [], [some (.box [.d (.int .i64 pd), .d (.str nm), .d w2, .d w3, .d w4, .d w5, .d w6, .d w7, .d w8])]]⟩ = some (.exit 0, ⟨[.undef, .undef, .undef, .undef, .undef, .undef, .undef, .undef, .undef, .undef, .undef, .undef, .undef, .undef, .undef, .undef, .undef, .undef, .undef], [[], [], [], [], [], [], [], [], [], [], [], [], [], [], [], [], [], [], [], [some (.box [.d (.int .i64 pd), .d (.str nm), .d w2, .d w3, .d w4, .d w5, .d w6, .d w7, .d w8])]]⟩) := by
  refine ho.loopR ?_
  cbv
  repeat ((first | rw [h2]); (try cbv))
theorem s79_go (vs : List D) (pd : Int) (nm : ByteArray) (w2 w3 w4 w5 w6 w7 w8 : D) (n k k1 : Int) (o0 o1 o2 o3 o5 o6 : D) (ps : List D) (z : Out × St)
    (h2 : o.cmp .lss k n = true)
    (h3 : o.elt vs k = some (.agg [o0, o1, o2, o3, .lst ps, o5, o6]))
    (c : o.call 57 [.agg [.d o0, .d o1, .d o2, .d o3, .d (.lst ps), .d o5, .d o6], .ptr (1, 0) 0] [some (.box [.d (.int .i64 pd), .d (.str nm), .d w2, .d w3, .d w4, .d w5, .d w6, .d w7, .d w8])] = some ⟨.d (.bool false), [some (.box [.d (.int .i64 pd), .d (.str nm), .d w2, .d w3, .d w4, .d w5, .d w6, .d w7, .d w8])], []⟩)
    (h4 : o.ar .add .i64 k 1 = k1)
    (ih : o.loop 7900 ⟨[.d (.lst vs), .fn 57 [.ptr (19, 0) 0], .undef, .undef, .undef, .undef, .undef, .d (.int .i64 n), .d (.int .i64 k1), .undef, .undef, .undef, .undef, .undef, .undef, .undef, .undef, .undef, .undef], [[], [], [], [], [], [], [], [], [], [], [], [], [], [], [], [], [], [], [], [some (.box [.d (.int .i64 pd), .d (.str nm), .d w2, .d w3, .d w4, .d w5, .d w6, .d w7, .d w8])]]⟩ = some z)
    : o.loop 7900 ⟨[.d (.lst vs), .fn 57 [.ptr (19, 0) 0], .undef, .undef, .undef, .undef, .undef, .d (.int .i64 n), .d (.int .i64 k), .undef, .undef, .undef, .undef, .undef, .undef, .undef, .undef, .undef, .undef], [[], [], [], [], [], [], [], [], [], [], [], [], [], [], [], [], [], [], [], [some (.box [.d (.int .i64 pd), .d (.str nm), .d w2, .d w3, .d w4, .d w5, .d w6, .d w7, .d w8])]]⟩ = some z := by
  refine ho.loopR ?_
  cbv
  repeat ((first | rw [h2] | rw [h3] | rw [c] | rw [h4] | exact ih); (try cbv))
theorem s79_out (vs : List D) (pd : Int) (nm : ByteArray) (w2 w3 w4 w5 w6 w7 w8 : D) (n k : Int) (o0 o1 o2 o3 o5 o6 : D) (ps : List D)
    (h2 : o.cmp .lss k n = true)
    (h3 : o.elt vs k = some (.agg [o0, o1, o2, o3, .lst ps, o5, o6]))
    (c : o.call 57 [.agg [.d o0, .d o1, .d o2, .d o3, .d (.lst ps), .d o5, .d o6], .ptr (1, 0) 0] [some (.box [.d (.int .i64 pd), .d (.str nm), .d w2, .d w3, .d w4, .d w5, .d w6, .d w7, .d w8])] = some ⟨.d (.bool true), [some (.box [.d (.int .i64 pd), .d (.str nm), .d w2, .d w3, .d w4, .d w5, .d w6, .d w7, .d w8])], []⟩)
    : o.loop 7900 ⟨[.d (.lst vs), .fn 57 [.ptr (19, 0) 0], .undef, .undef, .undef, .undef, .undef, .d (.int .i64 n), .d (.int .i64 k), .undef, .undef, .undef, .undef, .undef, .undef, .undef, .undef, .undef, .undef], [[], [], [], [], [], [], [], [], [], [], [], [], [], [], [], [], [], [], [], [some (.box [.d (.int .i64 pd), .d (.str nm), .d w2, .d w3, .d w4, .d w5, .d w6, .d w7, .d w8])]]⟩ = some (.ret, ⟨[.undef, .undef, .undef, .undef, .d (.int .i64 k), .undef, .undef, .undef, .undef, .undef, .undef, .undef, .undef, .undef, .undef, .undef, .undef, .undef, .undef], [[], [], [], [], [], [], [], [], [], [], [], [], [], [], [], [], [], [], [], [some (.box [.d (.int .i64 pd), .d (.str nm), .d w2, .d w3, .d w4, .d w5, .d w6, .d w7, .d w8])]]⟩) := by
  refine ho.loopR ?_
  cbv
  repeat ((first | rw [h2] | rw [h3] | rw [c]); (try cbv))
theorem s79_no (vs : List D) (pd : Int) (nm : ByteArray) (w2 w3 w4 w5 w6 w7 w8 : D) (n : Int)
    (hn : o.len vs = n)
    (l : o.loop 7900 ⟨[.d (.lst vs), .fn 57 [.ptr (19, 0) 0], .undef, .undef, .undef, .undef, .undef, .d (.int .i64 n), .d (.int .i64 0), .undef, .undef, .undef, .undef, .undef, .undef, .undef, .undef, .undef, .undef], [[], [], [], [], [], [], [], [], [], [], [], [], [], [], [], [], [], [], [], [some (.box [.d (.int .i64 pd), .d (.str nm), .d w2, .d w3, .d w4, .d w5, .d w6, .d w7, .d w8])]]⟩ = some (.exit 0, ⟨[.undef, .undef, .undef, .undef, .undef, .undef, .undef, .undef, .undef, .undef, .undef, .undef, .undef, .undef, .undef, .undef, .undef, .undef, .undef], [[], [], [], [], [], [], [], [], [], [], [], [], [], [], [], [], [], [], [], [some (.box [.d (.int .i64 pd), .d (.str nm), .d w2, .d w3, .d w4, .d w5, .d w6, .d w7, .d w8])]]⟩))
    : o.call 79 [.d (.lst vs), .fn 57 [.ptr (1, 0) 0]] [some (.box [.d (.int .i64 pd), .d (.str nm), .d w2, .d w3, .d w4, .d w5, .d w6, .d w7, .d w8])] = some ⟨.d (.int .i64 (-1)), [some (.box [.d (.int .i64 pd), .d (.str nm), .d w2, .d w3, .d w4, .d w5, .d w6, .d w7, .d w8])], []⟩ := by
  refine ho.callR ?_
  cbv
  repeat ((first | rw [hn] | rw [l]); (try cbv))
theorem s79_yes (vs : List D) (pd : Int) (nm : ByteArray) (w2 w3 w4 w5 w6 w7 w8 : D) (n k : Int)
    (hn : o.len vs = n)
    (l : o.loop 7900 ⟨[.d (.lst vs), .fn 57 [.ptr (19, 0) 0], .undef, .undef, .undef, .undef, .undef, .d (.int .i64 n), .d (.int .i64 0), .undef, .undef, .undef, .undef, .undef, .undef, .undef, .undef, .undef, .undef], [[], [], [], [], [], [], [], [], [], [], [], [], [], [], [], [], [], [], [], [some (.box [.d (.int .i64 pd), .d (.str nm), .d w2, .d w3, .d w4, .d w5, .d w6, .d w7, .d w8])]]⟩ = some (.ret, ⟨[.undef, .undef, .undef, .undef, .d (.int .i64 k), .undef, .undef, .undef, .undef, .undef, .undef, .undef, .undef, .undef, .undef, .undef, .undef, .undef, .undef], [[], [], [], [], [], [], [], [], [], [], [], [], [], [], [], [], [], [], [], [some (.box [.d (.int .i64 pd), .d (.str nm), .d w2, .d w3, .d w4, .d w5, .d w6, .d w7, .d w8])]]⟩))
    : o.call 79 [.d (.lst vs), .fn 57 [.ptr (1, 0) 0]] [some (.box [.d (.int .i64 pd), .d (.str nm), .d w2, .d w3, .d w4, .d w5, .d w6, .d w7, .d w8])] = some ⟨.d (.int .i64 k), [some (.box [.d (.int .i64 pd), .d (.str nm), .d w2, .d w3, .d w4, .d w5, .d w6, .d w7, .d w8])], []⟩ := by
  refine ho.callR ?_
  cbv
  repeat ((first | rw [hn] | rw [l]); (try cbv))
theorem s56 (vs : List D) (pd : Int) (nm : ByteArray) (w2 w3 w4 w5 w6 w7 w8 : D) (k : Int) (b : Bool)
    (c : o.call 79 [.d (.lst vs), .fn 57 [.ptr (1, 0) 0]] [some (.box [.d (.int .i64 pd), .d (.str nm), .d w2, .d w3, .d w4, .d w5, .d w6, .d w7, .d w8])] = some ⟨.d (.int .i64 k), [some (.box [.d (.int .i64 pd), .d (.str nm), .d w2, .d w3, .d w4, .d w5, .d w6, .d w7, .d w8])], []⟩)
    (g : o.cmp .geq k 0 = b)
    : o.call 56 [.d (.lst vs), .fn 57 [.ptr (1, 0) 0]] [some (.box [.d (.int .i64 pd), .d (.str nm), .d w2, .d w3, .d w4, .d w5, .d w6, .d w7, .d w8])] = some ⟨.d (.bool b), [some (.box [.d (.int .i64 pd), .d (.str nm), .d w2, .d w3, .d w4, .d w5, .d w6, .d w7, .d w8])], []⟩ := by
  refine ho.callR ?_
  cbv
  repeat ((first | rw [c] | rw [g]); (try cbv))
theorem s550_end (c0 c3 c4 : D) (vs ws : List D) (v i : Int) (o0 o1 o2 o3 o5 o6 : D) (ps : List D) (n : Int)
    (h0 : o.elt vs i = some (.agg [o0, o1, o2, o3, .lst ps, o5, o6]))
    (hn : o.len ps = n)
    (h2 : o.cmp .lss n n = false)
    : o.loop 5500 ⟨[.undef, .d (.int .i64 v), .ptr (2, 0) 0, .undef, .undef, .undef, .d (.int .i64 i), .d (.int .i64 n), .undef, .undef, .undef, .undef, .undef, .undef, .undef, .undef, .undef, .undef, .undef, .undef, .undef, .undef, .undef, .undef, .undef, .undef, .undef, .undef, .undef, .undef, .undef, .undef, .undef, .undef, .undef, .undef, .undef, .undef, .undef], [[], [], [some (.box [.d c0, .d (.lst vs), .d (.lst ws), .d c3, .d c4])], [], [], [], [], [], [], [], [], [], [], [], [], [], [], [], [], [], [], [], [], [], [], [], [], [], [], [], [], [], [], [], [], [], [], [], []]⟩ = some (.exit 2, ⟨[.undef, .d (.int .i64 v), .ptr (2, 0) 0, .undef, .undef, .undef, .d (.int .i64 i), .undef, .undef, .undef, .undef, .undef, .undef, .undef, .undef, .undef, .undef, .undef, .undef, .undef, .undef, .undef, .undef, .undef, .undef, .undef, .undef, .undef, .undef, .undef, .undef, .undef, .undef, .undef, .undef, .undef, .undef, .undef, .undef], [[], [], [some (.box [.d c0, .d (.lst vs), .d (.lst ws), .d c3, .d c4])], [], [], [], [], [], [], [], [], [], [], [], [], [], [], [], [], [], [], [], [], [], [], [], [], [], [], [], [], [], [], [], [], [], [], [], []]⟩) := by
  refine ho.loopR ?_
  cbv
  repeat ((first | rw [h0] | rw [hn] | rw [h2]); (try cbv))
theorem s550_go (c0 c3 c4 : D) (vs ws : List D) (v i : Int) (o0 o1 o2 o3 o5 o6 : D) (ps : List D) (n k k1 p : Int) (z : Out × St)
    (h0 : o.elt vs i = some (.agg [o0, o1, o2, o3, .lst ps, o5, o6]))
    (hn : o.len ps = n)
    (h2 : o.cmp .lss k n = true)
    (h3 : o.elt ps k = some (.int .i64 p))
    (h5 : o.cmp .eql p v = false)
    (h4 : o.ar .add .i64 k 1 = k1)
    (ih : o.loop 5500 ⟨[.undef, .d (.int .i64 v), .ptr (2, 0) 0, .undef, .undef, .undef, .d (.int .i64 i), .d (.int .i64 k1), .undef, .undef, .undef, .undef, .undef, .undef, .undef, .undef, .undef, .undef, .undef, .undef, .undef, .undef, .undef, .undef, .undef, .undef, .undef, .undef, .undef, .undef, .undef, .undef, .undef, .undef, .undef, .undef, .undef, .undef, .undef], [[], [], [some (.box [.d c0, .d (.lst vs), .d (.lst ws), .d c3, .d c4])], [], [], [], [], [], [], [], [], [], [], [], [], [], [], [], [], [], [], [], [], [], [], [], [], [], [], [], [], [], [], [], [], [], [], [], []]⟩ = some z)
    : o.loop 5500 ⟨[.undef, .d (.int .i64 v), .ptr (2, 0) 0, .undef, .undef, .undef, .d (.int .i64 i), .d (.int .i64 k), .undef, .undef, .undef, .undef, .undef, .undef, .undef, .undef, .undef, .undef, .undef, .undef, .undef, .undef, .undef, .undef, .undef, .undef, .undef, .undef, .undef, .undef, .undef, .undef, .undef, .undef, .undef, .undef, .undef, .undef, .undef], [[], [], [some (.box [.d c0, .d (.lst vs), .d (.lst ws), .d c3, .d c4])], [], [], [], [], [], [], [], [], [], [], [], [], [], [], [], [], [], [], [], [], [], [], [], [], [], [], [], [], [], [], [], [], [], [], [], []]⟩ = some z := by
  refine ho.loopR ?_
  cbv
  repeat ((first | rw [h0] | rw [hn] | rw [h2] | rw [h3] | rw [h5] | rw [h4] | exact ih); (try cbv))
theorem s550_out (c0 c3 c4 : D) (vs ws : List D) (v i : Int) (o0 o1 o2 o3 o5 o6 : D) (ps : List D) (n k p : Int)
    (h0 : o.elt vs i = some (.agg [o0, o1, o2, o3, .lst ps, o5, o6]))
    (hn : o.len ps = n)
    (h2 : o.cmp .lss k n = true)
    (h3 : o.elt ps k = some (.int .i64 p))
    (h5 : o.cmp .eql p v = true)
    : o.loop 5500 ⟨[.undef, .d (.int .i64 v), .ptr (2, 0) 0, .undef, .undef, .undef, .d (.int .i64 i), .d (.int .i64 k), .undef, .undef, .undef, .undef, .undef, .undef, .undef, .undef, .undef, .undef, .undef, .undef, .undef, .undef, .undef, .undef, .undef, .undef, .undef, .undef, .undef, .undef, .undef, .undef, .undef, .undef, .undef, .undef, .undef, .undef, .undef], [[], [], [some (.box [.d c0, .d (.lst vs), .d (.lst ws), .d c3, .d c4])], [], [], [], [], [], [], [], [], [], [], [], [], [], [], [], [], [], [], [], [], [], [], [], [], [], [], [], [], [], [], [], [], [], [], [], []]⟩ = some (.ret, ⟨[.undef, .d (.int .i64 v), .ptr (2, 0) 0, .undef, .d (.int .i64 i), .d (.int .i64 k), .d (.int .i64 i), .undef, .undef, .undef, .undef, .undef, .undef, .undef, .undef, .undef, .undef, .undef, .undef, .undef, .undef, .undef, .undef, .undef, .undef, .undef, .undef, .undef, .undef, .undef, .undef, .undef, .undef, .undef, .undef, .undef, .undef, .undef, .undef], [[], [], [some (.box [.d c0, .d (.lst vs), .d (.lst ws), .d c3, .d c4])], [], [], [], [], [], [], [], [], [], [], [], [], [], [], [], [], [], [], [], [], [], [], [], [], [], [], [], [], [], [], [], [], [], [], [], []]⟩) := by
  refine ho.loopR ?_
  cbv
  repeat ((first | rw [h0] | rw [hn] | rw [h2] | rw [h3] | rw [h5]); (try cbv))
theorem s551_end (c0 c3 c4 : D) (vs ws : List D) (v n : Int)
    (hn : o.len vs = n)
    (h2 : o.cmp .lss n n = false)
    : o.loop 5501 ⟨[.undef, .d (.int .i64 v), .ptr (2, 0) 0, .undef, .undef, .undef, .d (.int .i64 n), .undef, .undef, .undef, .undef, .undef, .undef, .undef, .undef, .undef, .undef, .undef, .undef, .undef, .undef, .undef, .undef, .undef, .undef, .undef, .undef, .undef, .undef, .undef, .undef, .undef, .undef, .undef, .undef, .undef, .undef, .undef, .undef], [[], [], [some (.box [.d c0, .d (.lst vs), .d (.lst ws), .d c3, .d c4])], [], [], [], [], [], [], [], [], [], [], [], [], [], [], [], [], [], [], [], [], [], [], [], [], [], [], [], [], [], [], [], [], [], [], [], []]⟩ = some (.exit 0, ⟨[.undef, .undef, .undef, .undef, .undef, .undef, .undef, .undef, .undef, .undef, .undef, .undef, .undef, .undef, .undef, .undef, .undef, .undef, .undef, .undef, .undef, .undef, .undef, .undef, .undef, .undef, .undef, .undef, .undef, .undef, .undef, .undef, .undef, .undef, .undef, .undef, .undef, .undef, .undef], [[], [], [], [], [], [], [], [], [], [], [], [], [], [], [], [], [], [], [], [], [], [], [], [], [], [], [], [], [], [], [], [], [], [], [], [], [], [], []]⟩) := by
  refine ho.loopR ?_
  cbv
  repeat ((first | rw [hn] | rw [h2]); (try cbv))
theorem s551_go (c0 c3 c4 : D) (vs ws : List D) (v i i1 n : Int) (z : Out × St)
    (hn : o.len vs = n)
    (h2 : o.cmp .lss i n = true)
    (l : o.loop 5500 ⟨[.undef, .d (.int .i64 v), .ptr (2, 0) 0, .undef, .undef, .undef, .d (.int .i64 i), .d (.int .i64 0), .undef, .undef, .undef, .undef, .undef, .undef, .undef, .undef, .undef, .undef, .undef, .undef, .undef, .undef, .undef, .undef, .undef, .undef, .undef, .undef, .undef, .undef, .undef, .undef, .undef, .undef, .undef, .undef, .undef, .undef, .undef], [[], [], [some (.box [.d c0, .d (.lst vs), .d (.lst ws), .d c3, .d c4])], [], [], [], [], [], [], [], [], [], [], [], [], [], [], [], [], [], [], [], [], [], [], [], [], [], [], [], [], [], [], [], [], [], [], [], []]⟩ = some (.exit 2, ⟨[.undef, .d (.int .i64 v), .ptr (2, 0) 0, .undef, .undef, .undef, .d (.int .i64 i), .undef, .undef, .undef, .undef, .undef, .undef, .undef, .undef, .undef, .undef, .undef, .undef, .undef, .undef, .undef, .undef, .undef, .undef, .undef, .undef, .undef, .undef, .undef, .undef, .undef, .undef, .undef, .undef, .undef, .undef, .undef, .undef], [[], [], [some (.box [.d c0, .d (.lst vs), .d (.lst ws), .d c3, .d c4])], [], [], [], [], [], [], [], [], [], [], [], [], [], [], [], [], [], [], [], [], [], [], [], [], [], [], [], [], [], [], [], [], [], [], [], []]⟩))
    (h4 : o.ar .add .i64 i 1 = i1)
    (ih : o.loop 5501 ⟨[.undef, .d (.int .i64 v), .ptr (2, 0) 0, .undef, .undef, .undef, .d (.int .i64 i1), .undef, .undef, .undef, .undef, .undef, .undef, .undef, .undef, .undef, .undef, .undef, .undef, .undef, .undef, .undef, .undef, .undef, .undef, .undef, .undef, .undef, .undef, .undef, .undef, .undef, .undef, .undef, .undef, .undef, .undef, .undef, .undef], [[], [], [some (.box [.d c0, .d (.lst vs), .d (.lst ws), .d c3, .d c4])], [], [], [], [], [], [], [], [], [], [], [], [], [], [], [], [], [], [], [], [], [], [], [], [], [], [], [], [], [], [], [], [], [], [], [], []]⟩ = some z)
    : o.loop 5501 ⟨[.undef, .d (.int .i64 v), .ptr (2, 0) 0, .undef, .undef, .undef, .d (.int .i64 i), .undef, .undef, .undef, .undef, .undef, .undef, .undef, .undef, .undef, .undef, .undef, .undef, .undef, .undef, .undef, .undef, .undef, .undef, .undef, .undef, .undef, .undef, .undef, .undef, .undef, .undef, .undef, .undef, .undef, .undef, .undef, .undef], [[], [], [some (.box [.d c0, .d (.lst vs), .d (.lst ws), .d c3, .d c4])], [], [], [], [], [], [], [], [], [], [], [], [], [], [], [], [], [], [], [], [], [], [], [], [], [], [], [], [], [], [], [], [], [], [], [], []]⟩ = some z := by
  refine ho.loopR ?_
  cbv
  repeat ((first | rw [hn] | rw [h2] | rw [l] | rw [h4] | exact ih); (try cbv))
theorem s551_out (c0 c3 c4 : D) (vs ws : List D) (v i k n : Int)
    (hn : o.len vs = n)
    (h2 : o.cmp .lss i n = true)
    (l : o.loop 5500 ⟨[.undef, .d (.int .i64 v), .ptr (2, 0) 0, .undef, .undef, .undef, .d (.int .i64 i), .d (.int .i64 0), .undef, .undef, .undef, .undef, .undef, .undef, .undef, .undef, .undef, .undef, .undef, .undef, .undef, .undef, .undef, .undef, .undef, .undef, .undef, .undef, .undef, .undef, .undef, .undef, .undef, .undef, .undef, .undef, .undef, .undef, .undef], [[], [], [some (.box [.d c0, .d (.lst vs), .d (.lst ws), .d c3, .d c4])], [], [], [], [], [], [], [], [], [], [], [], [], [], [], [], [], [], [], [], [], [], [], [], [], [], [], [], [], [], [], [], [], [], [], [], []]⟩ = some (.ret, ⟨[.undef, .d (.int .i64 v), .ptr (2, 0) 0, .undef, .d (.int .i64 i), .d (.int .i64 k), .d (.int .i64 i), .undef, .undef, .undef, .undef, .undef, .undef, .undef, .undef, .undef, .undef, .undef, .undef, .undef, .undef, .undef, .undef, .undef, .undef, .undef, .undef, .undef, .undef, .undef, .undef, .undef, .undef, .undef, .undef, .undef, .undef, .undef, .undef], [[], [], [some (.box [.d c0, .d (.lst vs), .d (.lst ws), .d c3, .d c4])], [], [], [], [], [], [], [], [], [], [], [], [], [], [], [], [], [], [], [], [], [], [], [], [], [], [], [], [], [], [], [], [], [], [], [], []]⟩))
    : o.loop 5501 ⟨[.undef, .d (.int .i64 v), .ptr (2, 0) 0, .undef, .undef, .undef, .d (.int .i64 i), .undef, .undef, .undef, .undef, .undef, .undef, .undef, .undef, .undef, .undef, .undef, .undef, .undef, .undef, .undef, .undef, .undef, .undef, .undef, .undef, .undef, .undef, .undef, .undef, .undef, .undef, .undef, .undef, .undef, .undef, .undef, .undef], [[], [], [some (.box [.d c0, .d (.lst vs), .d (.lst ws), .d c3, .d c4])], [], [], [], [], [], [], [], [], [], [], [], [], [], [], [], [], [], [], [], [], [], [], [], [], [], [], [], [], [], [], [], [], [], [], [], []]⟩ = some (.ret, ⟨[.undef, .undef, .undef, .undef, .d (.int .i64 i), .d (.int .i64 k), .undef, .undef, .undef, .undef, .undef, .undef, .undef, .undef, .undef, .undef, .undef, .undef, .undef, .undef, .undef, .undef, .undef, .undef, .undef, .undef, .undef, .undef, .undef, .undef, .undef, .undef, .undef, .undef, .undef, .undef, .undef, .undef, .undef], [[], [], [], [], [], [], [], [], [], [], [], [], [], [], [], [], [], [], [], [], [], [], [], [], [], [], [], [], [], [], [], [], [], [], [], [], [], [], []]⟩) := by
  refine ho.loopR ?_
  cbv
  repeat ((first | rw [hn] | rw [h2] | rw [l]); (try cbv))
theorem s55_no (c0 c3 c4 : D) (vs ws : List D) (v : Int)
    (l : o.loop 5501 ⟨[.undef, .d (.int .i64 v), .ptr (2, 0) 0, .undef, .undef, .undef, .d (.int .i64 0), .undef, .undef, .undef, .undef, .undef, .undef, .undef, .undef, .undef, .undef, .undef, .undef, .undef, .undef, .undef, .undef, .undef, .undef, .undef, .undef, .undef, .undef, .undef, .undef, .undef, .undef, .undef, .undef, .undef, .undef, .undef, .undef], [[], [], [some (.box [.d c0, .d (.lst vs), .d (.lst ws), .d c3, .d c4])], [], [], [], [], [], [], [], [], [], [], [], [], [], [], [], [], [], [], [], [], [], [], [], [], [], [], [], [], [], [], [], [], [], [], [], []]⟩ = some (.exit 0, ⟨[.undef, .undef, .undef, .undef, .undef, .undef, .undef, .undef, .undef, .undef, .undef, .undef, .undef, .undef, .undef, .undef, .undef, .undef, .undef, .undef, .undef, .undef, .undef, .undef, .undef, .undef, .undef, .undef, .undef, .undef, .undef, .undef, .undef, .undef, .undef, .undef, .undef, .undef, .undef], [[], [], [], [], [], [], [], [], [], [], [], [], [], [], [], [], [], [], [], [], [], [], [], [], [], [], [], [], [], [], [], [], [], [], [], [], [], [], []]⟩))
    : o.call 55 [.agg [.d c0, .d (.lst vs), .d (.lst ws), .d c3, .d c4], .d (.int .i64 v)] [] = some ⟨.tup [.d (.int .i64 (-1)), .d (.int .i64 (-1))], [], []⟩ := by
  refine ho.callR ?_
  cbv
  repeat ((first | rw [l]); (try cbv))
theorem s55_yes (c0 c3 c4 : D) (vs ws : List D) (v i k : Int)
    (l : o.loop 5501 ⟨[.undef, .d (.int .i64 v), .ptr (2, 0) 0, .undef, .undef, .undef, .d (.int .i64 0), .undef, .undef, .undef, .undef, .undef, .undef, .undef, .undef, .undef, .undef, .undef, .undef, .undef, .undef, .undef, .undef, .undef, .undef, .undef, .undef, .undef, .undef, .undef, .undef, .undef, .undef, .undef, .undef, .undef, .undef, .undef, .undef], [[], [], [some (.box [.d c0, .d (.lst vs), .d (.lst ws), .d c3, .d c4])], [], [], [], [], [], [], [], [], [], [], [], [], [], [], [], [], [], [], [], [], [], [], [], [], [], [], [], [], [], [], [], [], [], [], [], []]⟩ = some (.ret, ⟨[.undef, .undef, .undef, .undef, .d (.int .i64 i), .d (.int .i64 k), .undef, .undef, .undef, .undef, .undef, .undef, .undef, .undef, .undef, .undef, .undef, .undef, .undef, .undef, .undef, .undef, .undef, .undef, .undef, .undef, .undef, .undef, .undef, .undef, .undef, .undef, .undef, .undef, .undef, .undef, .undef, .undef, .undef], [[], [], [], [], [], [], [], [], [], [], [], [], [], [], [], [], [], [], [], [], [], [], [], [], [], [], [], [], [], [], [], [], [], [], [], [], [], [], []]⟩))
    : o.call 55 [.agg [.d c0, .d (.lst vs), .d (.lst ws), .d c3, .d c4], .d (.int .i64 v)] [] = some ⟨.tup [.d (.int .i64 i), .d (.int .i64 k)], [], []⟩ := by
  refine ho.callR ?_
  cbv
  repeat ((first | rw [l]); (try cbv))
theorem s250_end (c0 c3 c4 : D) (vs ws : List D) (i : Int)
    (h2 : o.cmp .lss i i = false)
    : o.loop 2500 ⟨[.undef, .ptr (1, 0) 0, .undef, .d (.int .i64 i), .undef, .undef, .d (.int .i64 i), .undef, .undef, .undef, .undef, .undef, .undef, .undef, .undef, .undef, .undef, .undef, .undef, .undef, .undef, .undef, .undef, .undef, .undef, .undef, .undef, .undef, .undef, .undef, .undef, .undef, .undef, .undef, .undef, .undef, .undef, .undef, .undef, .undef, .undef, .undef, .undef, .undef, .undef, .undef, .undef, .undef, .undef, .undef, .undef, .undef, .undef, .undef, .undef, .undef, .undef, .undef, .undef, .undef], [[], [some (.box [.d c0, .d (.lst vs), .d (.lst ws), .d c3, .d c4])], [], [], [], [], [], [], [], [], [], [], [], [], [], [], [], [], [], [], [], [], [], [], [], [], [], [], [], [], [], [], [], [], [], [], [], [], [], [], [], [], [], [], [], [], [], [], [], [], [], [], [], [], [], [], [], [], [], []]⟩ = some (.exit 2, ⟨[.undef, .ptr (1, 0) 0, .undef, .d (.int .i64 i), .undef, .undef, .undef, .undef, .undef, .undef, .undef, .undef, .undef, .undef, .undef, .undef, .undef, .undef, .undef, .undef, .undef, .undef, .undef, .undef, .undef, .undef, .undef, .undef, .undef, .undef, .undef, .undef, .undef, .undef, .undef, .undef, .undef, .undef, .undef, .undef, .undef, .undef, .undef, .undef, .undef, .undef, .undef, .undef, .undef, .undef, .undef, .undef, .undef, .undef, .undef, .undef, .undef, .undef, .undef, .undef], [[], [some (.box [.d c0, .d (.lst vs), .d (.lst ws), .d c3, .d c4])], [], [], [], [], [], [], [], [], [], [], [], [], [], [], [], [], [], [], [], [], [], [], [], [], [], [], [], [], [], [], [], [], [], [], [], [], [], [], [], [], [], [], [], [], [], [], [], [], [], [], [], [], [], [], [], [], [], []]⟩) := by
  refine ho.loopR ?_
  cbv
  repeat ((first | rw [h2]); (try cbv))
theorem s250_go (c0 c3 c4 : D) (vs ws : List D) (i k k1 : Int) (pd : Int) (nm : ByteArray) (w2 w3 w4 w5 w6 w7 w8 : D) (yd : Int) (ym : ByteArray) (y2 y3 y4 y5 y6 y7 y8 : D) (z : Out × St)
    (h2 : o.cmp .lss k i = true)
    (h0 : o.elt ws i = some (.agg [.int .i64 pd, .str nm, w2, w3, w4, w5, w6, w7, w8]))
    (h3 : o.elt ws k = some (.agg [.int .i64 yd, .str ym, y2, y3, y4, y5, y6, y7, y8]))
    (h5 : o.cmp .eql yd pd = false)
    (h6 : o.sCmp .eql ym nm = false)
    (h4 : o.ar .add .i64 k 1 = k1)
    (ih : o.loop 2500 ⟨[.undef, .ptr (1, 0) 0, .undef, .d (.int .i64 i), .undef, .undef, .d (.int .i64 k1), .undef, .undef, .undef, .undef, .undef, .undef, .undef, .undef, .undef, .undef, .undef, .undef, .undef, .undef, .undef, .undef, .undef, .undef, .undef, .undef, .undef, .undef, .undef, .undef, .undef, .undef, .undef, .undef, .undef, .undef, .undef, .undef, .undef, .undef, .undef, .undef, .undef, .undef, .undef, .undef, .undef, .undef, .undef, .undef, .undef, .undef, .undef, .undef, .undef, .undef, .undef, .undef, .undef], [[], [some (.box [.d c0, .d (.lst vs), .d (.lst ws), .d c3, .d c4])], [], [], [], [], [], [], [], [], [], [], [], [], [], [], [], [], [], [], [], [], [], [], [], [], [], [], [], [], [], [], [], [], [], [], [], [], [], [], [], [], [], [], [], [], [], [], [], [], [], [], [], [], [], [], [], [], [], []]⟩ = some z)
    : o.loop 2500 ⟨[.undef, .ptr (1, 0) 0, .undef, .d (.int .i64 i), .undef, .undef, .d (.int .i64 k), .undef, .undef, .undef, .undef, .undef, .undef, .undef, .undef, .undef, .undef, .undef, .undef, .undef, .undef, .undef, .undef, .undef, .undef, .undef, .undef, .undef, .undef, .undef, .undef, .undef, .undef, .undef, .undef, .undef, .undef, .undef, .undef, .undef, .undef, .undef, .undef, .undef, .undef, .undef, .undef, .undef, .undef, .undef, .undef, .undef, .undef, .undef, .undef, .undef, .undef, .undef, .undef, .undef], [[], [some (.box [.d c0, .d (.lst vs), .d (.lst ws), .d c3, .d c4])], [], [], [], [], [], [], [], [], [], [], [], [], [], [], [], [], [], [], [], [], [], [], [], [], [], [], [], [], [], [], [], [], [], [], [], [], [], [], [], [], [], [], [], [], [], [], [], [], [], [], [], [], [], [], [], [], [], []]⟩ = some z := by
  refine ho.loopR ?_
  cbv
  repeat ((first | rw [h2] | rw [h0] | rw [h3] | rw [h5] | rw [h6] | rw [h4] | exact ih); (try cbv))
theorem s250_out1 (c0 c3 c4 : D) (vs ws : List D) (i k k1 : Int) (pd : Int) (nm : ByteArray) (w2 w3 w4 w5 w6 w7 w8 : D) (yd : Int) (ym : ByteArray) (y2 y3 y4 y5 y6 y7 y8 : D) (z : Out × St)
    (h2 : o.cmp .lss k i = true)
    (h0 : o.elt ws i = some (.agg [.int .i64 pd, .str nm, w2, w3, w4, w5, w6, w7, w8]))
    (h3 : o.elt ws k = some (.agg [.int .i64 yd, .str ym, y2, y3, y4, y5, y6, y7, y8]))
    (h5 : o.cmp .eql yd pd = true)
    : o.loop 2500 ⟨[.undef, .ptr (1, 0) 0, .undef, .d (.int .i64 i), .undef, .undef, .d (.int .i64 k), .undef, .undef, .undef, .undef, .undef, .undef, .undef, .undef, .undef, .undef, .undef, .undef, .undef, .undef, .undef, .undef, .undef, .undef, .undef, .undef, .undef, .undef, .undef, .undef, .undef, .undef, .undef, .undef, .undef, .undef, .undef, .undef, .undef, .undef, .undef, .undef, .undef, .undef, .undef, .undef, .undef, .undef, .undef, .undef, .undef, .undef, .undef, .undef, .undef, .undef, .undef, .undef, .undef], [[], [some (.box [.d c0, .d (.lst vs), .d (.lst ws), .d c3, .d c4])], [], [], [], [], [], [], [], [], [], [], [], [], [], [], [], [], [], [], [], [], [], [], [], [], [], [], [], [], [], [], [], [], [], [], [], [], [], [], [], [], [], [], [], [], [], [], [], [], [], [], [], [], [], [], [], [], [], []]⟩ = some (.ret, ⟨[.undef, .ptr (1, 0) 0, .d (.bool false), .d (.int .i64 i), .undef, .undef, .undef, .undef, .undef, .undef, .undef, .undef, .undef, .undef, .undef, .undef, .undef, .undef, .undef, .undef, .undef, .undef, .undef, .undef, .undef, .undef, .undef, .undef, .undef, .undef, .undef, .undef, .undef, .undef, .undef, .undef, .undef, .undef, .undef, .undef, .undef, .undef, .undef, .undef, .undef, .undef, .undef, .undef, .undef, .undef, .undef, .undef, .undef, .undef, .undef, .undef, .undef, .undef, .undef, .undef], [[], [some (.box [.d c0, .d (.lst vs), .d (.lst ws), .d c3, .d c4])], [], [], [], [], [], [], [], [], [], [], [], [], [], [], [], [], [], [], [], [], [], [], [], [], [], [], [], [], [], [], [], [], [], [], [], [], [], [], [], [], [], [], [], [], [], [], [], [], [], [], [], [], [], [], [], [], [], []]⟩) := by
  refine ho.loopR ?_
  cbv
  repeat ((first | rw [h2] | rw [h0] | rw [h3] | rw [h5]); (try cbv))
theorem s250_out2 (c0 c3 c4 : D) (vs ws : List D) (i k k1 : Int) (pd : Int) (nm : ByteArray) (w2 w3 w4 w5 w6 w7 w8 : D) (yd : Int) (ym : ByteArray) (y2 y3 y4 y5 y6 y7 y8 : D) (z : Out × St)
    (h2 : o.cmp .lss k i = true)
    (h0 : o.elt ws i = some (.agg [.int .i64 pd, .str nm, w2, w3, w4, w5, w6, w7, w8]))
    (h3 : o.elt ws k = some (.agg [.int .i64 yd, .str ym, y2, y3, y4, y5, y6, y7, y8]))
    (h5 : o.cmp .eql yd pd = false)
    (h6 : o.sCmp .eql ym nm = true)
    : o.loop 2500 ⟨[.undef, .ptr (1, 0) 0, .undef, .d (.int .i64 i), .undef, .undef, .d (.int .i64 k), .undef, .undef, .undef, .undef, .undef, .undef, .undef, .undef, .undef, .undef, .undef, .undef, .undef, .undef, .undef, .undef, .undef, .undef, .undef, .undef, .undef, .undef, .undef, .undef, .undef, .undef, .undef, .undef, .undef, .undef, .undef, .undef, .undef, .undef, .undef, .undef, .undef, .undef, .undef, .undef, .undef, .undef, .undef, .undef, .undef, .undef, .undef, .undef, .undef, .undef, .undef, .undef, .undef], [[], [some (.box [.d c0, .d (.lst vs), .d (.lst ws), .d c3, .d c4])], [], [], [], [], [], [], [], [], [], [], [], [], [], [], [], [], [], [], [], [], [], [], [], [], [], [], [], [], [], [], [], [], [], [], [], [], [], [], [], [], [], [], [], [], [], [], [], [], [], [], [], [], [], [], [], [], [], []]⟩ = some (.ret, ⟨[.undef, .ptr (1, 0) 0, .d (.bool false), .d (.int .i64 i), .undef, .undef, .undef, .undef, .undef, .undef, .undef, .undef, .undef, .undef, .undef, .undef, .undef, .undef, .undef, .undef, .undef, .undef, .undef, .undef, .undef, .undef, .undef, .undef, .undef, .undef, .undef, .undef, .undef, .undef, .undef, .undef, .undef, .undef, .undef, .undef, .undef, .undef, .undef, .undef, .undef, .undef, .undef, .undef, .undef, .undef, .undef, .undef, .undef, .undef, .undef, .undef, .undef, .undef, .undef, .undef], [[], [some (.box [.d c0, .d (.lst vs), .d (.lst ws), .d c3, .d c4])], [], [], [], [], [], [], [], [], [], [], [], [], [], [], [], [], [], [], [], [], [], [], [], [], [], [], [], [], [], [], [], [], [], [], [], [], [], [], [], [], [], [], [], [], [], [], [], [], [], [], [], [], [], [], [], [], [], []]⟩) := by
  refine ho.loopR ?_
  cbv
  repeat ((first | rw [h2] | rw [h0] | rw [h3] | rw [h5] | rw [h6]); (try cbv))
theorem s251_end (c0 c3 c4 : D) (vs ws : List D) (n : Int)
    (hn : o.len ws = n)
    (h2 : o.cmp .lss n n = false)
    : o.loop 2501 ⟨[.undef, .ptr (1, 0) 0, .undef, .d (.int .i64 n), .undef, .undef, .undef, .undef, .undef, .undef, .undef, .undef, .undef, .undef, .undef, .undef, .undef, .undef, .undef, .undef, .undef, .undef, .undef, .undef, .undef, .undef, .undef, .undef, .undef, .undef, .undef, .undef, .undef, .undef, .undef, .undef, .undef, .undef, .undef, .undef, .undef, .undef, .undef, .undef, .undef, .undef, .undef, .undef, .undef, .undef, .undef, .undef, .undef, .undef, .undef, .undef, .undef, .undef, .undef, .undef], [[], [some (.box [.d c0, .d (.lst vs), .d (.lst ws), .d c3, .d c4])], [], [], [], [], [], [], [], [], [], [], [], [], [], [], [], [], [], [], [], [], [], [], [], [], [], [], [], [], [], [], [], [], [], [], [], [], [], [], [], [], [], [], [], [], [], [], [], [], [], [], [], [], [], [], [], [], [], []]⟩ = some (.exit 0, ⟨[.undef, .undef, .undef, .undef, .undef, .undef, .undef, .undef, .undef, .undef, .undef, .undef, .undef, .undef, .undef, .undef, .undef, .undef, .undef, .undef, .undef, .undef, .undef, .undef, .undef, .undef, .undef, .undef, .undef, .undef, .undef, .undef, .undef, .undef, .undef, .undef, .undef, .undef, .undef, .undef, .undef, .undef, .undef, .undef, .undef, .undef, .undef, .undef, .undef, .undef, .undef, .undef, .undef, .undef, .undef, .undef, .undef, .undef, .undef, .undef], [[], [], [], [], [], [], [], [], [], [], [], [], [], [], [], [], [], [], [], [], [], [], [], [], [], [], [], [], [], [], [], [], [], [], [], [], [], [], [], [], [], [], [], [], [], [], [], [], [], [], [], [], [], [], [], [], [], [], [], []]⟩) := by
  refine ho.loopR ?_
  cbv
  repeat ((first | rw [hn] | rw [h2]); (try cbv))
theorem s251_go (c0 c3 c4 : D) (vs ws : List D) (n i i1 a b : Int) (pd : Int) (nm : ByteArray) (w2 w3 w4 w5 w6 w7 w8 : D) (z : Out × St)
    (hn : o.len ws = n)
    (h2 : o.cmp .lss i n = true)
    (h0 : o.elt ws i = some (.agg [.int .i64 pd, .str nm, w2, w3, w4, w5, w6, w7, w8]))
    (c : o.call 55 [.agg [.d c0, .d (.lst vs), .d (.lst ws), .d c3, .d c4], .d (.int .i64 pd)] [] = some ⟨.tup [.d (.int .i64 a), .d (.int .i64 b)], [], []⟩)
    (g : o.cmp .lss a 0 = false)
    (l : o.loop 2500 ⟨[.undef, .ptr (1, 0) 0, .undef, .d (.int .i64 i), .undef, .undef, .d (.int .i64 0), .undef, .undef, .undef, .undef, .undef, .undef, .undef, .undef, .undef, .undef, .undef, .undef, .undef, .undef, .undef, .undef, .undef, .undef, .undef, .undef, .undef, .undef, .undef, .undef, .undef, .undef, .undef, .undef, .undef, .undef, .undef, .undef, .undef, .undef, .undef, .undef, .undef, .undef, .undef, .undef, .undef, .undef, .undef, .undef, .undef, .undef, .undef, .undef, .undef, .undef, .undef, .undef, .undef], [[], [some (.box [.d c0, .d (.lst vs), .d (.lst ws), .d c3, .d c4])], [], [], [], [], [], [], [], [], [], [], [], [], [], [], [], [], [], [], [], [], [], [], [], [], [], [], [], [], [], [], [], [], [], [], [], [], [], [], [], [], [], [], [], [], [], [], [], [], [], [], [], [], [], [], [], [], [], []]⟩ = some (.exit 2, ⟨[.undef, .ptr (1, 0) 0, .undef, .d (.int .i64 i), .undef, .undef, .undef, .undef, .undef, .undef, .undef, .undef, .undef, .undef, .undef, .undef, .undef, .undef, .undef, .undef, .undef, .undef, .undef, .undef, .undef, .undef, .undef, .undef, .undef, .undef, .undef, .undef, .undef, .undef, .undef, .undef, .undef, .undef, .undef, .undef, .undef, .undef, .undef, .undef, .undef, .undef, .undef, .undef, .undef, .undef, .undef, .undef, .undef, .undef, .undef, .undef, .undef, .undef, .undef, .undef], [[], [some (.box [.d c0, .d (.lst vs), .d (.lst ws), .d c3, .d c4])], [], [], [], [], [], [], [], [], [], [], [], [], [], [], [], [], [], [], [], [], [], [], [], [], [], [], [], [], [], [], [], [], [], [], [], [], [], [], [], [], [], [], [], [], [], [], [], [], [], [], [], [], [], [], [], [], [], []]⟩))
    (h4 : o.ar .add .i64 i 1 = i1)
    (ih : o.loop 2501 ⟨[.undef, .ptr (1, 0) 0, .undef, .d (.int .i64 i1), .undef, .undef, .undef, .undef, .undef, .undef, .undef, .undef, .undef, .undef, .undef, .undef, .undef, .undef, .undef, .undef, .undef, .undef, .undef, .undef, .undef, .undef, .undef, .undef, .undef, .undef, .undef, .undef, .undef, .undef, .undef, .undef, .undef, .undef, .undef, .undef, .undef, .undef, .undef, .undef, .undef, .undef, .undef, .undef, .undef, .undef, .undef, .undef, .undef, .undef, .undef, .undef, .undef, .undef, .undef, .undef], [[], [some (.box [.d c0, .d (.lst vs), .d (.lst ws), .d c3, .d c4])], [], [], [], [], [], [], [], [], [], [], [], [], [], [], [], [], [], [], [], [], [], [], [], [], [], [], [], [], [], [], [], [], [], [], [], [], [], [], [], [], [], [], [], [], [], [], [], [], [], [], [], [], [], [], [], [], [], []]⟩ = some z)
    : o.loop 2501 ⟨[.undef, .ptr (1, 0) 0, .undef, .d (.int .i64 i), .undef, .undef, .undef, .undef, .undef, .undef, .undef, .undef, .undef, .undef, .undef, .undef, .undef, .undef, .undef, .undef, .undef, .undef, .undef, .undef, .undef, .undef, .undef, .undef, .undef, .undef, .undef, .undef, .undef, .undef, .undef, .undef, .undef, .undef, .undef, .undef, .undef, .undef, .undef, .undef, .undef, .undef, .undef, .undef, .undef, .undef, .undef, .undef, .undef, .undef, .undef, .undef, .undef, .undef, .undef, .undef], [[], [some (.box [.d c0, .d (.lst vs), .d (.lst ws), .d c3, .d c4])], [], [], [], [], [], [], [], [], [], [], [], [], [], [], [], [], [], [], [], [], [], [], [], [], [], [], [], [], [], [], [], [], [], [], [], [], [], [], [], [], [], [], [], [], [], [], [], [], [], [], [], [], [], [], [], [], [], []]⟩ = some z := by
  refine ho.loopR ?_
  cbv
  repeat ((first | rw [hn] | rw [h2] | rw [h0] | rw [c] | rw [g] | rw [l] | rw [h4] | exact ih); (try cbv))
theorem s251_out1 (c0 c3 c4 : D) (vs ws : List D) (n i a b : Int) (pd : Int) (nm : ByteArray) (w2 w3 w4 w5 w6 w7 w8 : D)
    (hn : o.len ws = n)
    (h2 : o.cmp .lss i n = true)
    (h0 : o.elt ws i = some (.agg [.int .i64 pd, .str nm, w2, w3, w4, w5, w6, w7, w8]))
    (c : o.call 55 [.agg [.d c0, .d (.lst vs), .d (.lst ws), .d c3, .d c4], .d (.int .i64 pd)] [] = some ⟨.tup [.d (.int .i64 a), .d (.int .i64 b)], [], []⟩)
    (g : o.cmp .lss a 0 = true)
    : o.loop 2501 ⟨[.undef, .ptr (1, 0) 0, .undef, .d (.int .i64 i), .undef, .undef, .undef, .undef, .undef, .undef, .undef, .undef, .undef, .undef, .undef, .undef, .undef, .undef, .undef, .undef, .undef, .undef, .undef, .undef, .undef, .undef, .undef, .undef, .undef, .undef, .undef, .undef, .undef, .undef, .undef, .undef, .undef, .undef, .undef, .undef, .undef, .undef, .undef, .undef, .undef, .undef, .undef, .undef, .undef, .undef, .undef, .undef, .undef, .undef, .undef, .undef, .undef, .undef, .undef, .undef], [[], [some (.box [.d c0, .d (.lst vs), .d (.lst ws), .d c3, .d c4])], [], [], [], [], [], [], [], [], [], [], [], [], [], [], [], [], [], [], [], [], [], [], [], [], [], [], [], [], [], [], [], [], [], [], [], [], [], [], [], [], [], [], [], [], [], [], [], [], [], [], [], [], [], [], [], [], [], []]⟩ = some (.ret, ⟨[.undef, .undef, .d (.bool false), .undef, .undef, .undef, .undef, .undef, .undef, .undef, .undef, .undef, .undef, .undef, .undef, .undef, .undef, .undef, .undef, .undef, .undef, .undef, .undef, .undef, .undef, .undef, .undef, .undef, .undef, .undef, .undef, .undef, .undef, .undef, .undef, .undef, .undef, .undef, .undef, .undef, .undef, .undef, .undef, .undef, .undef, .undef, .undef, .undef, .undef, .undef, .undef, .undef, .undef, .undef, .undef, .undef, .undef, .undef, .undef, .undef], [[], [], [], [], [], [], [], [], [], [], [], [], [], [], [], [], [], [], [], [], [], [], [], [], [], [], [], [], [], [], [], [], [], [], [], [], [], [], [], [], [], [], [], [], [], [], [], [], [], [], [], [], [], [], [], [], [], [], [], []]⟩) := by
  refine ho.loopR ?_
  cbv
  repeat ((first | rw [hn] | rw [h2] | rw [h0] | rw [c] | rw [g]); (try cbv))
theorem s251_out2 (c0 c3 c4 : D) (vs ws : List D) (n i a b : Int) (pd : Int) (nm : ByteArray) (w2 w3 w4 w5 w6 w7 w8 : D)
    (hn : o.len ws = n)
    (h2 : o.cmp .lss i n = true)
    (h0 : o.elt ws i = some (.agg [.int .i64 pd, .str nm, w2, w3, w4, w5, w6, w7, w8]))
    (c : o.call 55 [.agg [.d c0, .d (.lst vs), .d (.lst ws), .d c3, .d c4], .d (.int .i64 pd)] [] = some ⟨.tup [.d (.int .i64 a), .d (.int .i64 b)], [], []⟩)
    (g : o.cmp .lss a 0 = false)
    (l : o.loop 2500 ⟨[.undef, .ptr (1, 0) 0, .undef, .d (.int .i64 i), .undef, .undef, .d (.int .i64 0), .undef, .undef, .undef, .undef, .undef, .undef, .undef, .undef, .undef, .undef, .undef, .undef, .undef, .undef, .undef, .undef, .undef, .undef, .undef, .undef, .undef, .undef, .undef, .undef, .undef, .undef, .undef, .undef, .undef, .undef, .undef, .undef, .undef, .undef, .undef, .undef, .undef, .undef, .undef, .undef, .undef, .undef, .undef, .undef, .undef, .undef, .undef, .undef, .undef, .undef, .undef, .undef, .undef], [[], [some (.box [.d c0, .d (.lst vs), .d (.lst ws), .d c3, .d c4])], [], [], [], [], [], [], [], [], [], [], [], [], [], [], [], [], [], [], [], [], [], [], [], [], [], [], [], [], [], [], [], [], [], [], [], [], [], [], [], [], [], [], [], [], [], [], [], [], [], [], [], [], [], [], [], [], [], []]⟩ = some (.ret, ⟨[.undef, .ptr (1, 0) 0, .d (.bool false), .d (.int .i64 i), .undef, .undef, .undef, .undef, .undef, .undef, .undef, .undef, .undef, .undef, .undef, .undef, .undef, .undef, .undef, .undef, .undef, .undef, .undef, .undef, .undef, .undef, .undef, .undef, .undef, .undef, .undef, .undef, .undef, .undef, .undef, .undef, .undef, .undef, .undef, .undef, .undef, .undef, .undef, .undef, .undef, .undef, .undef, .undef, .undef, .undef, .undef, .undef, .undef, .undef, .undef, .undef, .undef, .undef, .undef, .undef], [[], [some (.box [.d c0, .d (.lst vs), .d (.lst ws), .d c3, .d c4])], [], [], [], [], [], [], [], [], [], [], [], [], [], [], [], [], [], [], [], [], [], [], [], [], [], [], [], [], [], [], [], [], [], [], [], [], [], [], [], [], [], [], [], [], [], [], [], [], [], [], [], [], [], [], [], [], [], []]⟩))
    : o.loop 2501 ⟨[.undef, .ptr (1, 0) 0, .undef, .d (.int .i64 i), .undef, .undef, .undef, .undef, .undef, .undef, .undef, .undef, .undef, .undef, .undef, .undef, .undef, .undef, .undef, .undef, .undef, .undef, .undef, .undef, .undef, .undef, .undef, .undef, .undef, .undef, .undef, .undef, .undef, .undef, .undef, .undef, .undef, .undef, .undef, .undef, .undef, .undef, .undef, .undef, .undef, .undef, .undef, .undef, .undef, .undef, .undef, .undef, .undef, .undef, .undef, .undef, .undef, .undef, .undef, .undef], [[], [some (.box [.d c0, .d (.lst vs), .d (.lst ws), .d c3, .d c4])], [], [], [], [], [], [], [], [], [], [], [], [], [], [], [], [], [], [], [], [], [], [], [], [], [], [], [], [], [], [], [], [], [], [], [], [], [], [], [], [], [], [], [], [], [], [], [], [], [], [], [], [], [], [], [], [], [], []]⟩ = some (.ret, ⟨[.undef, .undef, .d (.bool false), .undef, .undef, .undef, .undef, .undef, .undef, .undef, .undef, .undef, .undef, .undef, .undef, .undef, .undef, .undef, .undef, .undef, .undef, .undef, .undef, .undef, .undef, .undef, .undef, .undef, .undef, .undef, .undef, .undef, .undef, .undef, .undef, .undef, .undef, .undef, .undef, .undef, .undef, .undef, .undef, .undef, .undef, .undef, .undef, .undef, .undef, .undef, .undef, .undef, .undef, .undef, .undef, .undef, .undef, .undef, .undef, .undef], [[], [], [], [], [], [], [], [], [], [], [], [], [], [], [], [], [], [], [], [], [], [], [], [], [], [], [], [], [], [], [], [], [], [], [], [], [], [], [], [], [], [], [], [], [], [], [], [], [], [], [], [], [], [], [], [], [], [], [], []]⟩) := by
  refine ho.loopR ?_
  cbv
  repeat ((first | rw [hn] | rw [h2] | rw [h0] | rw [c] | rw [g] | rw [l]); (try cbv))
theorem s25_yes (c0 c3 c4 : D) (vs ws : List D)
    (l : o.loop 2501 ⟨[.undef, .ptr (1, 0) 0, .undef, .d (.int .i64 0), .undef, .undef, .undef, .undef, .undef, .undef, .undef, .undef, .undef, .undef, .undef, .undef, .undef, .undef, .undef, .undef, .undef, .undef, .undef, .undef, .undef, .undef, .undef, .undef, .undef, .undef, .undef, .undef, .undef, .undef, .undef, .undef, .undef, .undef, .undef, .undef, .undef, .undef, .undef, .undef, .undef, .undef, .undef, .undef, .undef, .undef, .undef, .undef, .undef, .undef, .undef, .undef, .undef, .undef, .undef, .undef], [[], [some (.box [.d c0, .d (.lst vs), .d (.lst ws), .d c3, .d c4])], [], [], [], [], [], [], [], [], [], [], [], [], [], [], [], [], [], [], [], [], [], [], [], [], [], [], [], [], [], [], [], [], [], [], [], [], [], [], [], [], [], [], [], [], [], [], [], [], [], [], [], [], [], [], [], [], [], []]⟩ = some (.exit 0, ⟨[.undef, .undef, .undef, .undef, .undef, .undef, .undef, .undef, .undef, .undef, .undef, .undef, .undef, .undef, .undef, .undef, .undef, .undef, .undef, .undef, .undef, .undef, .undef, .undef, .undef, .undef, .undef, .undef, .undef, .undef, .undef, .undef, .undef, .undef, .undef, .undef, .undef, .undef, .undef, .undef, .undef, .undef, .undef, .undef, .undef, .undef, .undef, .undef, .undef, .undef, .undef, .undef, .undef, .undef, .undef, .undef, .undef, .undef, .undef, .undef], [[], [], [], [], [], [], [], [], [], [], [], [], [], [], [], [], [], [], [], [], [], [], [], [], [], [], [], [], [], [], [], [], [], [], [], [], [], [], [], [], [], [], [], [], [], [], [], [], [], [], [], [], [], [], [], [], [], [], [], []]⟩))
    : o.call 25 [.agg [.d c0, .d (.lst vs), .d (.lst ws), .d c3, .d c4]] [] = some ⟨.d (.bool true), [], []⟩ := by
  refine ho.callR ?_
  cbv
  repeat ((first | rw [l]); (try cbv))
theorem s25_no (c0 c3 c4 : D) (vs ws : List D)
    (l : o.loop 2501 ⟨[.undef, .ptr (1, 0) 0, .undef, .d (.int .i64 0), .undef, .undef, .undef, .undef, .undef, .undef, .undef, .undef, .undef, .undef, .undef, .undef, .undef, .undef, .undef, .undef, .undef, .undef, .undef, .undef, .undef, .undef, .undef, .undef, .undef, .undef, .undef, .undef, .undef, .undef, .undef, .undef, .undef, .undef, .undef, .undef, .undef, .undef, .undef, .undef, .undef, .undef, .undef, .undef, .undef, .undef, .undef, .undef, .undef, .undef, .undef, .undef, .undef, .undef, .undef, .undef], [[], [some (.box [.d c0, .d (.lst vs), .d (.lst ws), .d c3, .d c4])], [], [], [], [], [], [], [], [], [], [], [], [], [], [], [], [], [], [], [], [], [], [], [], [], [], [], [], [], [], [], [], [], [], [], [], [], [], [], [], [], [], [], [], [], [], [], [], [], [], [], [], [], [], [], [], [], [], []]⟩ = some (.ret, ⟨[.undef, .undef, .d (.bool false), .undef, .undef, .undef, .undef, .undef, .undef, .undef, .undef, .undef, .undef, .undef, .undef, .undef, .undef, .undef, .undef, .undef, .undef, .undef, .undef, .undef, .undef, .undef, .undef, .undef, .undef, .undef, .undef, .undef, .undef, .undef, .undef, .undef, .undef, .undef, .undef, .undef, .undef, .undef, .undef, .undef, .undef, .undef, .undef, .undef, .undef, .undef, .undef, .undef, .undef, .undef, .undef, .undef, .undef, .undef, .undef, .undef], [[], [], [], [], [], [], [], [], [], [], [], [], [], [], [], [], [], [], [], [], [], [], [], [], [], [], [], [], [], [], [], [], [], [], [], [], [], [], [], [], [], [], [], [], [], [], [], [], [], [], [], [], [], [], [], [], [], [], [], []]⟩))
    : o.call 25 [.agg [.d c0, .d (.lst vs), .d (.lst ws), .d c3, .d c4]] [] = some ⟨.d (.bool false), [], []⟩ := by
  refine ho.callR ?_
  cbv
  repeat ((first | rw [l]); (try cbv))
theorem s260_end (c0 c3 c4 : D) (vs ws : List D) (ys : List D) (n i : Int) (pd : Int) (nm : ByteArray) (w2 w3 w4 w5 w6 w7 w8 : D)
    (h2 : o.cmp .lss i i = false)
    : o.loop 2600 ⟨[.undef, .ptr (1, 0) 0, .undef, .undef, .ptr (4, 0) 0, .undef, .undef, .undef, .d (.lst ws), .d (.int .i64 n), .d (.int .i64 i), .undef, .undef, .undef, .undef, .undef, .undef, .undef, .d (.lst ys), .d (.int .i64 i), .d (.int .i64 i), .undef, .undef, .undef, .undef, .undef, .undef, .undef, .undef, .undef, .undef, .undef, .undef, .undef, .undef, .undef, .undef, .undef, .undef, .undef, .undef, .undef, .undef], [[], [some (.box [.d c0, .d (.lst vs), .d (.lst ws), .d c3, .d c4])], [], [], [some (.box [.d (.int .i64 pd), .d (.str nm), .d w2, .d w3, .d w4, .d w5, .d w6, .d w7, .d w8])], [], [], [], [], [], [], [], [], [], [], [], [], [], [], [], [], [], [], [], [], [], [], [], [], [], [], [], [], [], [], [], [], [], [], [], [], [], []]⟩ = some (.exit 2, ⟨[.undef, .ptr (1, 0) 0, .undef, .undef, .ptr (4, 0) 0, .undef, .undef, .undef, .d (.lst ws), .d (.int .i64 n), .d (.int .i64 i), .undef, .undef, .undef, .undef, .undef, .undef, .undef, .undef, .undef, .undef, .undef, .undef, .undef, .undef, .undef, .undef, .undef, .undef, .undef, .undef, .undef, .undef, .undef, .undef, .undef, .undef, .undef, .undef, .undef, .undef, .undef, .undef], [[], [some (.box [.d c0, .d (.lst vs), .d (.lst ws), .d c3, .d c4])], [], [], [some (.box [.d (.int .i64 pd), .d (.str nm), .d w2, .d w3, .d w4, .d w5, .d w6, .d w7, .d w8])], [], [], [], [], [], [], [], [], [], [], [], [], [], [], [], [], [], [], [], [], [], [], [], [], [], [], [], [], [], [], [], [], [], [], [], [], [], []]⟩) := by
  refine ho.loopR ?_
  cbv
  repeat ((first | rw [h2]); (try cbv))
theorem s260_go (c0 c3 c4 : D) (vs ws : List D) (ys : List D) (n i k k1 : Int) (pd : Int) (nm : ByteArray) (w2 w3 w4 w5 w6 w7 w8 : D) (yd : Int) (ym : ByteArray) (y2 y3 y4 y5 y6 y7 y8 : D) (z : Out × St)
    (h2 : o.cmp .lss k i = true)
    (h3 : o.elt ys k = some (.agg [.int .i64 yd, .str ym, y2, y3, y4, y5, y6, y7, y8]))
    (h5 : o.cmp .eql yd pd = false)
    (h6 : o.sCmp .eql ym nm = false)
    (h4 : o.ar .add .i64 k 1 = k1)
    (ih : o.loop 2600 ⟨[.undef, .ptr (1, 0) 0, .undef, .undef, .ptr (4, 0) 0, .undef, .undef, .undef, .d (.lst ws), .d (.int .i64 n), .d (.int .i64 i), .undef, .undef, .undef, .undef, .undef, .undef, .undef, .d (.lst ys), .d (.int .i64 i), .d (.int .i64 k1), .undef, .undef, .undef, .undef, .undef, .undef, .undef, .undef, .undef, .undef, .undef, .undef, .undef, .undef, .undef, .undef, .undef, .undef, .undef, .undef, .undef, .undef], [[], [some (.box [.d c0, .d (.lst vs), .d (.lst ws), .d c3, .d c4])], [], [], [some (.box [.d (.int .i64 pd), .d (.str nm), .d w2, .d w3, .d w4, .d w5, .d w6, .d w7, .d w8])], [], [], [], [], [], [], [], [], [], [], [], [], [], [], [], [], [], [], [], [], [], [], [], [], [], [], [], [], [], [], [], [], [], [], [], [], [], []]⟩ = some z)
    : o.loop 2600 ⟨[.undef, .ptr (1, 0) 0, .undef, .undef, .ptr (4, 0) 0, .undef, .undef, .undef, .d (.lst ws), .d (.int .i64 n), .d (.int .i64 i), .undef, .undef, .undef, .undef, .undef, .undef, .undef, .d (.lst ys), .d (.int .i64 i), .d (.int .i64 k), .undef, .undef, .undef, .undef, .undef, .undef, .undef, .undef, .undef, .undef, .undef, .undef, .undef, .undef, .undef, .undef, .undef, .undef, .undef, .undef, .undef, .undef], [[], [some (.box [.d c0, .d (.lst vs), .d (.lst ws), .d c3, .d c4])], [], [], [some (.box [.d (.int .i64 pd), .d (.str nm), .d w2, .d w3, .d w4, .d w5, .d w6, .d w7, .d w8])], [], [], [], [], [], [], [], [], [], [], [], [], [], [], [], [], [], [], [], [], [], [], [], [], [], [], [], [], [], [], [], [], [], [], [], [], [], []]⟩ = some z := by
  refine ho.loopR ?_
  cbv
  repeat ((first | rw [h2] | rw [h3] | rw [h5] | rw [h6] | rw [h4] | exact ih); (try cbv))
theorem s260_out1 (c0 c3 c4 : D) (vs ws : List D) (ys : List D) (n i k k1 : Int) (pd : Int) (nm : ByteArray) (w2 w3 w4 w5 w6 w7 w8 : D) (yd : Int) (ym : ByteArray) (y2 y3 y4 y5 y6 y7 y8 : D) (z : Out × St)
    (h2 : o.cmp .lss k i = true)
    (h3 : o.elt ys k = some (.agg [.int .i64 yd, .str ym, y2, y3, y4, y5, y6, y7, y8]))
    (h5 : o.cmp .eql yd pd = true)
    : o.loop 2600 ⟨[.undef, .ptr (1, 0) 0, .undef, .undef, .ptr (4, 0) 0, .undef, .undef, .undef, .d (.lst ws), .d (.int .i64 n), .d (.int .i64 i), .undef, .undef, .undef, .undef, .undef, .undef, .undef, .d (.lst ys), .d (.int .i64 i), .d (.int .i64 k), .undef, .undef, .undef, .undef, .undef, .undef, .undef, .undef, .undef, .undef, .undef, .undef, .undef, .undef, .undef, .undef, .undef, .undef, .undef, .undef, .undef, .undef], [[], [some (.box [.d c0, .d (.lst vs), .d (.lst ws), .d c3, .d c4])], [], [], [some (.box [.d (.int .i64 pd), .d (.str nm), .d w2, .d w3, .d w4, .d w5, .d w6, .d w7, .d w8])], [], [], [], [], [], [], [], [], [], [], [], [], [], [], [], [], [], [], [], [], [], [], [], [], [], [], [], [], [], [], [], [], [], [], [], [], [], []]⟩ = some (.ret, ⟨[.undef, .ptr (1, 0) 0, .d (.bool false), .undef, .ptr (4, 0) 0, .undef, .undef, .undef, .d (.lst ws), .d (.int .i64 n), .d (.int .i64 i), .undef, .undef, .undef, .undef, .undef, .undef, .undef, .undef, .undef, .undef, .undef, .undef, .undef, .undef, .undef, .undef, .undef, .undef, .undef, .undef, .undef, .undef, .undef, .undef, .undef, .undef, .undef, .undef, .undef, .undef, .undef, .undef], [[], [some (.box [.d c0, .d (.lst vs), .d (.lst ws), .d c3, .d c4])], [], [], [some (.box [.d (.int .i64 pd), .d (.str nm), .d w2, .d w3, .d w4, .d w5, .d w6, .d w7, .d w8])], [], [], [], [], [], [], [], [], [], [], [], [], [], [], [], [], [], [], [], [], [], [], [], [], [], [], [], [], [], [], [], [], [], [], [], [], [], []]⟩) := by
  refine ho.loopR ?_
  cbv
  repeat ((first | rw [h2] | rw [h3] | rw [h5]); (try cbv))
theorem s260_out2 (c0 c3 c4 : D) (vs ws : List D) (ys : List D) (n i k k1 : Int) (pd : Int) (nm : ByteArray) (w2 w3 w4 w5 w6 w7 w8 : D) (yd : Int) (ym : ByteArray) (y2 y3 y4 y5 y6 y7 y8 : D) (z : Out × St)
    (h2 : o.cmp .lss k i = true)
    (h3 : o.elt ys k = some (.agg [.int .i64 yd, .str ym, y2, y3, y4, y5, y6, y7, y8]))
    (h5 : o.cmp .eql yd pd = false)
    (h6 : o.sCmp .eql ym nm = true)
    : o.loop 2600 ⟨[.undef, .ptr (1, 0) 0, .undef, .undef, .ptr (4, 0) 0, .undef, .undef, .undef, .d (.lst ws), .d (.int .i64 n), .d (.int .i64 i), .undef, .undef, .undef, .undef, .undef, .undef, .undef, .d (.lst ys), .d (.int .i64 i), .d (.int .i64 k), .undef, .undef, .undef, .undef, .undef, .undef, .undef, .undef, .undef, .undef, .undef, .undef, .undef, .undef, .undef, .undef, .undef, .undef, .undef, .undef, .undef, .undef], [[], [some (.box [.d c0, .d (.lst vs), .d (.lst ws), .d c3, .d c4])], [], [], [some (.box [.d (.int .i64 pd), .d (.str nm), .d w2, .d w3, .d w4, .d w5, .d w6, .d w7, .d w8])], [], [], [], [], [], [], [], [], [], [], [], [], [], [], [], [], [], [], [], [], [], [], [], [], [], [], [], [], [], [], [], [], [], [], [], [], [], []]⟩ = some (.ret, ⟨[.undef, .ptr (1, 0) 0, .d (.bool false), .undef, .ptr (4, 0) 0, .undef, .undef, .undef, .d (.lst ws), .d (.int .i64 n), .d (.int .i64 i), .undef, .undef, .undef, .undef, .undef, .undef, .undef, .undef, .undef, .undef, .undef, .undef, .undef, .undef, .undef, .undef, .undef, .undef, .undef, .undef, .undef, .undef, .undef, .undef, .undef, .undef, .undef, .undef, .undef, .undef, .undef, .undef], [[], [some (.box [.d c0, .d (.lst vs), .d (.lst ws), .d c3, .d c4])], [], [], [some (.box [.d (.int .i64 pd), .d (.str nm), .d w2, .d w3, .d w4, .d w5, .d w6, .d w7, .d w8])], [], [], [], [], [], [], [], [], [], [], [], [], [], [], [], [], [], [], [], [], [], [], [], [], [], [], [], [], [], [], [], [], [], [], [], [], [], []]⟩) := by
  refine ho.loopR ?_
  cbv
  repeat ((first | rw [h2] | rw [h3] | rw [h5] | rw [h6]); (try cbv))
theorem s261_end (c0 c3 c4 : D) (vs ws : List D) (n : Int)
    (h2 : o.cmp .lss n n = false)
    : o.loop 2601 ⟨[.undef, .ptr (1, 0) 0, .undef, .undef, .undef, .undef, .undef, .undef, .d (.lst ws), .d (.int .i64 n), .d (.int .i64 n), .undef, .undef, .undef, .undef, .undef, .undef, .undef, .undef, .undef, .undef, .undef, .undef, .undef, .undef, .undef, .undef, .undef, .undef, .undef, .undef, .undef, .undef, .undef, .undef, .undef, .undef, .undef, .undef, .undef, .undef, .undef, .undef], [[], [some (.box [.d c0, .d (.lst vs), .d (.lst ws), .d c3, .d c4])], [], [], [], [], [], [], [], [], [], [], [], [], [], [], [], [], [], [], [], [], [], [], [], [], [], [], [], [], [], [], [], [], [], [], [], [], [], [], [], [], []]⟩ = some (.exit 0, ⟨[.undef, .undef, .undef, .undef, .undef, .undef, .undef, .undef, .undef, .undef, .undef, .undef, .undef, .undef, .undef, .undef, .undef, .undef, .undef, .undef, .undef, .undef, .undef, .undef, .undef, .undef, .undef, .undef, .undef, .undef, .undef, .undef, .undef, .undef, .undef, .undef, .undef, .undef, .undef, .undef, .undef, .undef, .undef], [[], [], [], [], [], [], [], [], [], [], [], [], [], [], [], [], [], [], [], [], [], [], [], [], [], [], [], [], [], [], [], [], [], [], [], [], [], [], [], [], [], [], []]⟩) := by
  refine ho.loopR ?_
  cbv
  repeat ((first | rw [h2]); (try cbv))
theorem s261_go (c0 c3 c4 : D) (vs ws : List D) (ys : List D) (n i i1 : Int) (pd : Int) (nm : ByteArray) (w2 w3 w4 w5 w6 w7 w8 : D) (z : Out × St)
    (h2 : o.cmp .lss i n = true)
    (h0 : o.elt ws i = some (.agg [.int .i64 pd, .str nm, w2, w3, w4, w5, w6, w7, w8]))
    (mi : o.minus i 0 = i)
    (sb : o.sub ws 0 i = some ys)
    (ly : o.len ys = i)
    (l : o.loop 2600 ⟨[.undef, .ptr (1, 0) 0, .undef, .undef, .ptr (4, 0) 0, .undef, .undef, .undef, .d (.lst ws), .d (.int .i64 n), .d (.int .i64 i), .undef, .undef, .undef, .undef, .undef, .undef, .undef, .d (.lst ys), .d (.int .i64 i), .d (.int .i64 0), .undef, .undef, .undef, .undef, .undef, .undef, .undef, .undef, .undef, .undef, .undef, .undef, .undef, .undef, .undef, .undef, .undef, .undef, .undef, .undef, .undef, .undef], [[], [some (.box [.d c0, .d (.lst vs), .d (.lst ws), .d c3, .d c4])], [], [], [some (.box [.d (.int .i64 pd), .d (.str nm), .d w2, .d w3, .d w4, .d w5, .d w6, .d w7, .d w8])], [], [], [], [], [], [], [], [], [], [], [], [], [], [], [], [], [], [], [], [], [], [], [], [], [], [], [], [], [], [], [], [], [], [], [], [], [], []]⟩ = some (.exit 2, ⟨[.undef, .ptr (1, 0) 0, .undef, .undef, .ptr (4, 0) 0, .undef, .undef, .undef, .d (.lst ws), .d (.int .i64 n), .d (.int .i64 i), .undef, .undef, .undef, .undef, .undef, .undef, .undef, .undef, .undef, .undef, .undef, .undef, .undef, .undef, .undef, .undef, .undef, .undef, .undef, .undef, .undef, .undef, .undef, .undef, .undef, .undef, .undef, .undef, .undef, .undef, .undef, .undef], [[], [some (.box [.d c0, .d (.lst vs), .d (.lst ws), .d c3, .d c4])], [], [], [some (.box [.d (.int .i64 pd), .d (.str nm), .d w2, .d w3, .d w4, .d w5, .d w6, .d w7, .d w8])], [], [], [], [], [], [], [], [], [], [], [], [], [], [], [], [], [], [], [], [], [], [], [], [], [], [], [], [], [], [], [], [], [], [], [], [], [], []]⟩))
    (c : o.call 56 [.d (.lst vs), .fn 57 [.ptr (1, 0) 0]] [some (.box [.d (.int .i64 pd), .d (.str nm), .d w2, .d w3, .d w4, .d w5, .d w6, .d w7, .d w8])] = some ⟨.d (.bool true), [some (.box [.d (.int .i64 pd), .d (.str nm), .d w2, .d w3, .d w4, .d w5, .d w6, .d w7, .d w8])], []⟩)
    (h4 : o.ar .add .i64 i 1 = i1)
    (ih : o.loop 2601 ⟨[.undef, .ptr (1, 0) 0, .undef, .undef, .undef, .undef, .undef, .undef, .d (.lst ws), .d (.int .i64 n), .d (.int .i64 i1), .undef, .undef, .undef, .undef, .undef, .undef, .undef, .undef, .undef, .undef, .undef, .undef, .undef, .undef, .undef, .undef, .undef, .undef, .undef, .undef, .undef, .undef, .undef, .undef, .undef, .undef, .undef, .undef, .undef, .undef, .undef, .undef], [[], [some (.box [.d c0, .d (.lst vs), .d (.lst ws), .d c3, .d c4])], [], [], [], [], [], [], [], [], [], [], [], [], [], [], [], [], [], [], [], [], [], [], [], [], [], [], [], [], [], [], [], [], [], [], [], [], [], [], [], [], []]⟩ = some z)
    : o.loop 2601 ⟨[.undef, .ptr (1, 0) 0, .undef, .undef, .undef, .undef, .undef, .undef, .d (.lst ws), .d (.int .i64 n), .d (.int .i64 i), .undef, .undef, .undef, .undef, .undef, .undef, .undef, .undef, .undef, .undef, .undef, .undef, .undef, .undef, .undef, .undef, .undef, .undef, .undef, .undef, .undef, .undef, .undef, .undef, .undef, .undef, .undef, .undef, .undef, .undef, .undef, .undef], [[], [some (.box [.d c0, .d (.lst vs), .d (.lst ws), .d c3, .d c4])], [], [], [], [], [], [], [], [], [], [], [], [], [], [], [], [], [], [], [], [], [], [], [], [], [], [], [], [], [], [], [], [], [], [], [], [], [], [], [], [], []]⟩ = some z := by
  refine ho.loopR ?_
  cbv
  repeat ((first | rw [h2] | rw [h0] | rw [mi] | rw [sb] | rw [ly] | rw [l] | rw [c] | rw [h4] | exact ih); (try cbv))
theorem s261_out1 (c0 c3 c4 : D) (vs ws : List D) (ys : List D) (n i i1 : Int) (pd : Int) (nm : ByteArray) (w2 w3 w4 w5 w6 w7 w8 : D) (z : Out × St)
    (h2 : o.cmp .lss i n = true)
    (h0 : o.elt ws i = some (.agg [.int .i64 pd, .str nm, w2, w3, w4, w5, w6, w7, w8]))
    (mi : o.minus i 0 = i)
    (sb : o.sub ws 0 i = some ys)
    (ly : o.len ys = i)
    (l : o.loop 2600 ⟨[.undef, .ptr (1, 0) 0, .undef, .undef, .ptr (4, 0) 0, .undef, .undef, .undef, .d (.lst ws), .d (.int .i64 n), .d (.int .i64 i), .undef, .undef, .undef, .undef, .undef, .undef, .undef, .d (.lst ys), .d (.int .i64 i), .d (.int .i64 0), .undef, .undef, .undef, .undef, .undef, .undef, .undef, .undef, .undef, .undef, .undef, .undef, .undef, .undef, .undef, .undef, .undef, .undef, .undef, .undef, .undef, .undef], [[], [some (.box [.d c0, .d (.lst vs), .d (.lst ws), .d c3, .d c4])], [], [], [some (.box [.d (.int .i64 pd), .d (.str nm), .d w2, .d w3, .d w4, .d w5, .d w6, .d w7, .d w8])], [], [], [], [], [], [], [], [], [], [], [], [], [], [], [], [], [], [], [], [], [], [], [], [], [], [], [], [], [], [], [], [], [], [], [], [], [], []]⟩ = some (.ret, ⟨[.undef, .ptr (1, 0) 0, .d (.bool false), .undef, .ptr (4, 0) 0, .undef, .undef, .undef, .d (.lst ws), .d (.int .i64 n), .d (.int .i64 i), .undef, .undef, .undef, .undef, .undef, .undef, .undef, .undef, .undef, .undef, .undef, .undef, .undef, .undef, .undef, .undef, .undef, .undef, .undef, .undef, .undef, .undef, .undef, .undef, .undef, .undef, .undef, .undef, .undef, .undef, .undef, .undef], [[], [some (.box [.d c0, .d (.lst vs), .d (.lst ws), .d c3, .d c4])], [], [], [some (.box [.d (.int .i64 pd), .d (.str nm), .d w2, .d w3, .d w4, .d w5, .d w6, .d w7, .d w8])], [], [], [], [], [], [], [], [], [], [], [], [], [], [], [], [], [], [], [], [], [], [], [], [], [], [], [], [], [], [], [], [], [], [], [], [], [], []]⟩))
    : o.loop 2601 ⟨[.undef, .ptr (1, 0) 0, .undef, .undef, .undef, .undef, .undef, .undef, .d (.lst ws), .d (.int .i64 n), .d (.int .i64 i), .undef, .undef, .undef, .undef, .undef, .undef, .undef, .undef, .undef, .undef, .undef, .undef, .undef, .undef, .undef, .undef, .undef, .undef, .undef, .undef, .undef, .undef, .undef, .undef, .undef, .undef, .undef, .undef, .undef, .undef, .undef, .undef], [[], [some (.box [.d c0, .d (.lst vs), .d (.lst ws), .d c3, .d c4])], [], [], [], [], [], [], [], [], [], [], [], [], [], [], [], [], [], [], [], [], [], [], [], [], [], [], [], [], [], [], [], [], [], [], [], [], [], [], [], [], []]⟩ = some (.ret, ⟨[.undef, .undef, .d (.bool false), .undef, .undef, .undef, .undef, .undef, .undef, .undef, .undef, .undef, .undef, .undef, .undef, .undef, .undef, .undef, .undef, .undef, .undef, .undef, .undef, .undef, .undef, .undef, .undef, .undef, .undef, .undef, .undef, .undef, .undef, .undef, .undef, .undef, .undef, .undef, .undef, .undef, .undef, .undef, .undef], [[], [], [], [], [], [], [], [], [], [], [], [], [], [], [], [], [], [], [], [], [], [], [], [], [], [], [], [], [], [], [], [], [], [], [], [], [], [], [], [], [], [], []]⟩) := by
  refine ho.loopR ?_
  cbv
  repeat ((first | rw [h2] | rw [h0] | rw [mi] | rw [sb] | rw [ly] | rw [l]); (try cbv))
theorem s261_out2 (c0 c3 c4 : D) (vs ws : List D) (ys : List D) (n i i1 : Int) (pd : Int) (nm : ByteArray) (w2 w3 w4 w5 w6 w7 w8 : D) (z : Out × St)
    (h2 : o.cmp .lss i n = true)
    (h0 : o.elt ws i = some (.agg [.int .i64 pd, .str nm, w2, w3, w4, w5, w6, w7, w8]))
    (mi : o.minus i 0 = i)
    (sb : o.sub ws 0 i = some ys)
    (ly : o.len ys = i)
    (l : o.loop 2600 ⟨[.undef, .ptr (1, 0) 0, .undef, .undef, .ptr (4, 0) 0, .undef, .undef, .undef, .d (.lst ws), .d (.int .i64 n), .d (.int .i64 i), .undef, .undef, .undef, .undef, .undef, .undef, .undef, .d (.lst ys), .d (.int .i64 i), .d (.int .i64 0), .undef, .undef, .undef, .undef, .undef, .undef, .undef, .undef, .undef, .undef, .undef, .undef, .undef, .undef, .undef, .undef, .undef, .undef, .undef, .undef, .undef, .undef], [[], [some (.box [.d c0, .d (.lst vs), .d (.lst ws), .d c3, .d c4])], [], [], [some (.box [.d (.int .i64 pd), .d (.str nm), .d w2, .d w3, .d w4, .d w5, .d w6, .d w7, .d w8])], [], [], [], [], [], [], [], [], [], [], [], [], [], [], [], [], [], [], [], [], [], [], [], [], [], [], [], [], [], [], [], [], [], [], [], [], [], []]⟩ = some (.exit 2, ⟨[.undef, .ptr (1, 0) 0, .undef, .undef, .ptr (4, 0) 0, .undef, .undef, .undef, .d (.lst ws), .d (.int .i64 n), .d (.int .i64 i), .undef, .undef, .undef, .undef, .undef, .undef, .undef, .undef, .undef, .undef, .undef, .undef, .undef, .undef, .undef, .undef, .undef, .undef, .undef, .undef, .undef, .undef, .undef, .undef, .undef, .undef, .undef, .undef, .undef, .undef, .undef, .undef], [[], [some (.box [.d c0, .d (.lst vs), .d (.lst ws), .d c3, .d c4])], [], [], [some (.box [.d (.int .i64 pd), .d (.str nm), .d w2, .d w3, .d w4, .d w5, .d w6, .d w7, .d w8])], [], [], [], [], [], [], [], [], [], [], [], [], [], [], [], [], [], [], [], [], [], [], [], [], [], [], [], [], [], [], [], [], [], [], [], [], [], []]⟩))
    (c : o.call 56 [.d (.lst vs), .fn 57 [.ptr (1, 0) 0]] [some (.box [.d (.int .i64 pd), .d (.str nm), .d w2, .d w3, .d w4, .d w5, .d w6, .d w7, .d w8])] = some ⟨.d (.bool false), [some (.box [.d (.int .i64 pd), .d (.str nm), .d w2, .d w3, .d w4, .d w5, .d w6, .d w7, .d w8])], []⟩)
    : o.loop 2601 ⟨[.undef, .ptr (1, 0) 0, .undef, .undef, .undef, .undef, .undef, .undef, .d (.lst ws), .d (.int .i64 n), .d (.int .i64 i), .undef, .undef, .undef, .undef, .undef, .undef, .undef, .undef, .undef, .undef, .undef, .undef, .undef, .undef, .undef, .undef, .undef, .undef, .undef, .undef, .undef, .undef, .undef, .undef, .undef, .undef, .undef, .undef, .undef, .undef, .undef, .undef], [[], [some (.box [.d c0, .d (.lst vs), .d (.lst ws), .d c3, .d c4])], [], [], [], [], [], [], [], [], [], [], [], [], [], [], [], [], [], [], [], [], [], [], [], [], [], [], [], [], [], [], [], [], [], [], [], [], [], [], [], [], []]⟩ = some (.ret, ⟨[.undef, .undef, .d (.bool false), .undef, .undef, .undef, .undef, .undef, .undef, .undef, .undef, .undef, .undef, .undef, .undef, .undef, .undef, .undef, .undef, .undef, .undef, .undef, .undef, .undef, .undef, .undef, .undef, .undef, .undef, .undef, .undef, .undef, .undef, .undef, .undef, .undef, .undef, .undef, .undef, .undef, .undef, .undef, .undef], [[], [], [], [], [], [], [], [], [], [], [], [], [], [], [], [], [], [], [], [], [], [], [], [], [], [], [], [], [], [], [], [], [], [], [], [], [], [], [], [], [], [], []]⟩) := by
  refine ho.loopR ?_
  cbv
  repeat ((first | rw [h2] | rw [h0] | rw [mi] | rw [sb] | rw [ly] | rw [l] | rw [c]); (try cbv))
theorem s26_yes (c0 c3 c4 : D) (vs ws : List D) (n : Int)
    (hn : o.len ws = n)
    (l : o.loop 2601 ⟨[.undef, .ptr (1, 0) 0, .undef, .undef, .undef, .undef, .undef, .undef, .d (.lst ws), .d (.int .i64 n), .d (.int .i64 0), .undef, .undef, .undef, .undef, .undef, .undef, .undef, .undef, .undef, .undef, .undef, .undef, .undef, .undef, .undef, .undef, .undef, .undef, .undef, .undef, .undef, .undef, .undef, .undef, .undef, .undef, .undef, .undef, .undef, .undef, .undef, .undef], [[], [some (.box [.d c0, .d (.lst vs), .d (.lst ws), .d c3, .d c4])], [], [], [], [], [], [], [], [], [], [], [], [], [], [], [], [], [], [], [], [], [], [], [], [], [], [], [], [], [], [], [], [], [], [], [], [], [], [], [], [], []]⟩ = some (.exit 0, ⟨[.undef, .undef, .undef, .undef, .undef, .undef, .undef, .undef, .undef, .undef, .undef, .undef, .undef, .undef, .undef, .undef, .undef, .undef, .undef, .undef, .undef, .undef, .undef, .undef, .undef, .undef, .undef, .undef, .undef, .undef, .undef, .undef, .undef, .undef, .undef, .undef, .undef, .undef, .undef, .undef, .undef, .undef, .undef], [[], [], [], [], [], [], [], [], [], [], [], [], [], [], [], [], [], [], [], [], [], [], [], [], [], [], [], [], [], [], [], [], [], [], [], [], [], [], [], [], [], [], []]⟩))
    : o.call 26 [.agg [.d c0, .d (.lst vs), .d (.lst ws), .d c3, .d c4]] [] = some ⟨.d (.bool true), [], []⟩ := by
  refine ho.callR ?_
  cbv
  repeat ((first | rw [hn] | rw [l]); (try cbv))
theorem s26_no (c0 c3 c4 : D) (vs ws : List D) (n : Int)
    (hn : o.len ws = n)
    (l : o.loop 2601 ⟨[.undef, .ptr (1, 0) 0, .undef, .undef, .undef, .undef, .undef, .undef, .d (.lst ws), .d (.int .i64 n), .d (.int .i64 0), .undef, .undef, .undef, .undef, .undef, .undef, .undef, .undef, .undef, .undef, .undef, .undef, .undef, .undef, .undef, .undef, .undef, .undef, .undef, .undef, .undef, .undef, .undef, .undef, .undef, .undef, .undef, .undef, .undef, .undef, .undef, .undef], [[], [some (.box [.d c0, .d (.lst vs), .d (.lst ws), .d c3, .d c4])], [], [], [], [], [], [], [], [], [], [], [], [], [], [], [], [], [], [], [], [], [], [], [], [], [], [], [], [], [], [], [], [], [], [], [], [], [], [], [], [], []]⟩ = some (.ret, ⟨[.undef, .undef, .d (.bool false), .undef, .undef, .undef, .undef, .undef, .undef, .undef, .undef, .undef, .undef, .undef, .undef, .undef, .undef, .undef, .undef, .undef, .undef, .undef, .undef, .undef, .undef, .undef, .undef, .undef, .undef, .undef, .undef, .undef, .undef, .undef, .undef, .undef, .undef, .undef, .undef, .undef, .undef, .undef, .undef], [[], [], [], [], [], [], [], [], [], [], [], [], [], [], [], [], [], [], [], [], [], [], [], [], [], [], [], [], [], [], [], [], [], [], [], [], [], [], [], [], [], [], []]⟩))
    : o.call 26 [.agg [.d c0, .d (.lst vs), .d (.lst ws), .d c3, .d c4]] [] = some ⟨.d (.bool false), [], []⟩ := by
  refine ho.callR ?_
  cbv
  repeat ((first | rw [hn] | rw [l]); (try cbv))
theorem eql_comm (a b : Int) : o.cmp .eql a b = o.cmp .eql b a := by
  rw [ho.cmp, ho.cmp]
  by_cases h : a = b
  · subst h; rfl
  · have h' : ¬ b = a := fun e => h e.symm
    show (a == b) = (b == a)
    rw [beq_eq_false_iff_ne.2 h, beq_eq_false_iff_ne.2 h']
theorem geq0 {a : Int} (h : 0 ≤ a) : o.cmp .geq a 0 = true := by rw [ho.cmp]; simp [cmpI, h]
theorem geq1 : o.cmp .geq (-1) 0 = false := by rw [ho.cmp]; simp [cmpI]
theorem has58 (ps : List D) (v : Int) (hm : ((ps.length : Nat) : Int) ≤ 9223372036854775807) (hx : ∀ y ∈ ps, ∃ p, y = .int .i64 p) : o.call 58 [.d (.lst ps), .d (.int .i64 v)] [] = some ⟨.d (.bool (hasPid o v ps)), [], []⟩ := by
  have hn := ho.len ps
  obtain ⟨n, hN⟩ : ∃ n, ((ps.length : Nat) : Int) = n := ⟨_, rfl⟩
  rw [hN] at hn hm
  have l := loop_listI (o := o) 8000 (fun k (_ : Unit) => ⟨[.d (.lst ps), .d (.int .i64 v), .undef, .undef, .undef, .undef, .undef, .d (.int .i64 n), .d (.int .i64 k), .undef, .undef, .undef, .undef, .undef, .undef, .undef, .undef, .undef, .undef], [[], [], [], [], [], [], [], [], [], [], [], [], [], [], [], [], [], [], []]⟩) ps n hN (isPid o v) (fun _ => (.exit 0, ⟨[.undef, .undef, .undef, .undef, .undef, .undef, .undef, .undef, .undef, .undef, .undef, .undef, .undef, .undef, .undef, .undef, .undef, .undef, .undef], [[], [], [], [], [], [], [], [], [], [], [], [], [], [], [], [], [], [], []]⟩)) (fun k => (.ret, ⟨[.undef, .undef, .undef, .undef, .d (.int .i64 k), .undef, .undef, .undef, .undef, .undef, .undef, .undef, .undef, .undef, .undef, .undef, .undef, .undef, .undef], [[], [], [], [], [], [], [], [], [], [], [], [], [], [], [], [], [], [], []]⟩))
    (fun _ => s80_end ho ps v n (lt_no ho n))
    (fun k a x a1 h0 h1 hk he z ih => by
      obtain ⟨p, rfl⟩ := hx x (List.mem_of_getElem? hk)
      simp only [isPid] at he
      cases hs : o.cmp .eql v p with
      | true => rw [hs] at he; cases he
      | false => exact s80_go ho ps v n k (k + 1) p z (lt_yes ho h1) (elt_some ho ps k _ h0 hk) hs (inc ho h0 h1 hm) ih)
    (fun k a x e h0 h1 hk he => by
      obtain ⟨p, rfl⟩ := hx x (List.mem_of_getElem? hk)
      simp only [isPid] at he
      cases hs : o.cmp .eql v p with
      | false => rw [hs] at he; cases he
      | true =>
        rw [hs] at he
        injection he with he
        subst he
        exact s80_out ho ps v n k p (lt_yes ho h1) (elt_some ho ps k _ h0 hk) hs) ()
  unfold hasPid
  unfold foldJ at l ⊢
  cases hf : foldI (isPid o v) 0 () ps with
  | ok u => rw [hf] at l; exact s58 ho ps v _ _ (s80_no ho ps v n hn l) (geq1 ho)
  | error k => rw [hf] at l; exact s58 ho ps v _ _ (s80_yes ho ps v n k hn l) (geq0 ho (isPid_err hf))
theorem has56 (vs : List D) (pd : Int) (nm : ByteArray) (w2 w3 w4 w5 w6 w7 w8 : D) (hm : ((vs.length : Nat) : Int) ≤ 9223372036854775807) (hx : ∀ x ∈ vs, isOver x) : o.call 56 [.d (.lst vs), .fn 57 [.ptr (1, 0) 0]] [some (.box [.d (.int .i64 pd), .d (.str nm), .d w2, .d w3, .d w4, .d w5, .d w6, .d w7, .d w8])] = some ⟨.d (.bool (hasUp o pd vs)), [some (.box [.d (.int .i64 pd), .d (.str nm), .d w2, .d w3, .d w4, .d w5, .d w6, .d w7, .d w8])], []⟩ := by
  have hn := ho.len vs
  obtain ⟨n, hN⟩ : ∃ n, ((vs.length : Nat) : Int) = n := ⟨_, rfl⟩
  rw [hN] at hn hm
  have l := loop_listI (o := o) 7900 (fun k (_ : Unit) => ⟨[.d (.lst vs), .fn 57 [.ptr (19, 0) 0], .undef, .undef, .undef, .undef, .undef, .d (.int .i64 n), .d (.int .i64 k), .undef, .undef, .undef, .undef, .undef, .undef, .undef, .undef, .undef, .undef], [[], [], [], [], [], [], [], [], [], [], [], [], [], [], [], [], [], [], [], [some (.box [.d (.int .i64 pd), .d (.str nm), .d w2, .d w3, .d w4, .d w5, .d w6, .d w7, .d w8])]]⟩) vs n hN (isUp o pd) (fun _ => (.exit 0, ⟨[.undef, .undef, .undef, .undef, .undef, .undef, .undef, .undef, .undef, .undef, .undef, .undef, .undef, .undef, .undef, .undef, .undef, .undef, .undef], [[], [], [], [], [], [], [], [], [], [], [], [], [], [], [], [], [], [], [], [some (.box [.d (.int .i64 pd), .d (.str nm), .d w2, .d w3, .d w4, .d w5, .d w6, .d w7, .d w8])]]⟩)) (fun k => (.ret, ⟨[.undef, .undef, .undef, .undef, .d (.int .i64 k), .undef, .undef, .undef, .undef, .undef, .undef, .undef, .undef, .undef, .undef, .undef, .undef, .undef, .undef], [[], [], [], [], [], [], [], [], [], [], [], [], [], [], [], [], [], [], [], [some (.box [.d (.int .i64 pd), .d (.str nm), .d w2, .d w3, .d w4, .d w5, .d w6, .d w7, .d w8])]]⟩))
    (fun _ => s79_end ho vs pd nm w2 w3 w4 w5 w6 w7 w8 n (lt_no ho n))
    (fun k a x a1 h0 h1 hk he z ih => by
      obtain ⟨o0, o1, o2, o3, o5, o6, ps, rfl, hp, hps⟩ := hx x (List.mem_of_getElem? hk)
      have c := has58 ho ps pd hp hps
      simp only [isUp] at he
      cases hs : hasPid o pd ps with
      | true => rw [hs] at he; cases he
      | false => rw [hs] at c; exact s79_go ho vs pd nm w2 w3 w4 w5 w6 w7 w8 n k (k + 1) o0 o1 o2 o3 o5 o6 ps z (lt_yes ho h1) (elt_some ho vs k _ h0 hk) (s57 ho o0 o1 o2 o3 o5 o6 ps pd nm w2 w3 w4 w5 w6 w7 w8 false c) (inc ho h0 h1 hm) ih)
    (fun k a x e h0 h1 hk he => by
      obtain ⟨o0, o1, o2, o3, o5, o6, ps, rfl, hp, hps⟩ := hx x (List.mem_of_getElem? hk)
      have c := has58 ho ps pd hp hps
      simp only [isUp] at he
      cases hs : hasPid o pd ps with
      | false => rw [hs] at he; cases he
      | true =>
        rw [hs] at he c
        injection he with he
        subst he
        exact s79_out ho vs pd nm w2 w3 w4 w5 w6 w7 w8 n k o0 o1 o2 o3 o5 o6 ps (lt_yes ho h1) (elt_some ho vs k _ h0 hk) (s57 ho o0 o1 o2 o3 o5 o6 ps pd nm w2 w3 w4 w5 w6 w7 w8 true c)) ()
  unfold hasUp
  unfold foldJ at l ⊢
  cases hf : foldI (isUp o pd) 0 () vs with
  | ok u => rw [hf] at l; exact s56 ho vs pd nm w2 w3 w4 w5 w6 w7 w8 _ _ (s79_no ho vs pd nm w2 w3 w4 w5 w6 w7 w8 n hn l) (geq1 ho)
  | error k => rw [hf] at l; exact s56 ho vs pd nm w2 w3 w4 w5 w6 w7 w8 _ _ (s79_yes ho vs pd nm w2 w3 w4 w5 w6 w7 w8 n k hn l) (geq0 ho (isUp_err hf))
theorem kid55 (c0 c3 c4 : D) (vs ws : List D) (v : Int) (hm : ((vs.length : Nat) : Int) ≤ 9223372036854775807) (hx : ∀ x ∈ vs, isOver x) : ∃ a b, o.call 55 [.agg [.d c0, .d (.lst vs), .d (.lst ws), .d c3, .d c4], .d (.int .i64 v)] [] = some ⟨.tup [.d (.int .i64 a), .d (.int .i64 b)], [], []⟩ ∧ o.cmp .lss a 0 = !hasUp o v vs := by
  have hn := ho.len vs
  obtain ⟨n, hN⟩ : ∃ n, ((vs.length : Nat) : Int) = n := ⟨_, rfl⟩
  rw [hN] at hn hm
  have inner : ∀ (i : Int) o0 o1 o2 o3 o5 o6 ps, o.elt vs i = some (.agg [o0, o1, o2, o3, .lst ps, o5, o6]) → ((ps.length : Nat) : Int) ≤ 9223372036854775807 → (∀ y ∈ ps, ∃ p, y = .int .i64 p) →
      (hasPid o v ps = false ∧ o.loop 5500 ⟨[.undef, .d (.int .i64 v), .ptr (2, 0) 0, .undef, .undef, .undef, .d (.int .i64 i), .d (.int .i64 0), .undef, .undef, .undef, .undef, .undef, .undef, .undef, .undef, .undef, .undef, .undef, .undef, .undef, .undef, .undef, .undef, .undef, .undef, .undef, .undef, .undef, .undef, .undef, .undef, .undef, .undef, .undef, .undef, .undef, .undef, .undef], [[], [], [some (.box [.d c0, .d (.lst vs), .d (.lst ws), .d c3, .d c4])], [], [], [], [], [], [], [], [], [], [], [], [], [], [], [], [], [], [], [], [], [], [], [], [], [], [], [], [], [], [], [], [], [], [], [], []]⟩ = some (.exit 2, ⟨[.undef, .d (.int .i64 v), .ptr (2, 0) 0, .undef, .undef, .undef, .d (.int .i64 i), .undef, .undef, .undef, .undef, .undef, .undef, .undef, .undef, .undef, .undef, .undef, .undef, .undef, .undef, .undef, .undef, .undef, .undef, .undef, .undef, .undef, .undef, .undef, .undef, .undef, .undef, .undef, .undef, .undef, .undef, .undef, .undef], [[], [], [some (.box [.d c0, .d (.lst vs), .d (.lst ws), .d c3, .d c4])], [], [], [], [], [], [], [], [], [], [], [], [], [], [], [], [], [], [], [], [], [], [], [], [], [], [], [], [], [], [], [], [], [], [], [], []]⟩)) ∨ (hasPid o v ps = true ∧ ∃ k, o.loop 5500 ⟨[.undef, .d (.int .i64 v), .ptr (2, 0) 0, .undef, .undef, .undef, .d (.int .i64 i), .d (.int .i64 0), .undef, .undef, .undef, .undef, .undef, .undef, .undef, .undef, .undef, .undef, .undef, .undef, .undef, .undef, .undef, .undef, .undef, .undef, .undef, .undef, .undef, .undef, .undef, .undef, .undef, .undef, .undef, .undef, .undef, .undef, .undef], [[], [], [some (.box [.d c0, .d (.lst vs), .d (.lst ws), .d c3, .d c4])], [], [], [], [], [], [], [], [], [], [], [], [], [], [], [], [], [], [], [], [], [], [], [], [], [], [], [], [], [], [], [], [], [], [], [], []]⟩ = some (.ret, ⟨[.undef, .d (.int .i64 v), .ptr (2, 0) 0, .undef, .d (.int .i64 i), .d (.int .i64 k), .d (.int .i64 i), .undef, .undef, .undef, .undef, .undef, .undef, .undef, .undef, .undef, .undef, .undef, .undef, .undef, .undef, .undef, .undef, .undef, .undef, .undef, .undef, .undef, .undef, .undef, .undef, .undef, .undef, .undef, .undef, .undef, .undef, .undef, .undef], [[], [], [some (.box [.d c0, .d (.lst vs), .d (.lst ws), .d c3, .d c4])], [], [], [], [], [], [], [], [], [], [], [], [], [], [], [], [], [], [], [], [], [], [], [], [], [], [], [], [], [], [], [], [], [], [], [], []]⟩)) := by
    intro i o0 o1 o2 o3 o5 o6 ps hi hpm hps
    have hpn := ho.len ps
    obtain ⟨pn, hpN⟩ : ∃ n, ((ps.length : Nat) : Int) = n := ⟨_, rfl⟩
    rw [hpN] at hpn hpm
    have l := loop_listI (o := o) 5500 (fun k (_ : Unit) => ⟨[.undef, .d (.int .i64 v), .ptr (2, 0) 0, .undef, .undef, .undef, .d (.int .i64 i), .d (.int .i64 k), .undef, .undef, .undef, .undef, .undef, .undef, .undef, .undef, .undef, .undef, .undef, .undef, .undef, .undef, .undef, .undef, .undef, .undef, .undef, .undef, .undef, .undef, .undef, .undef, .undef, .undef, .undef, .undef, .undef, .undef, .undef], [[], [], [some (.box [.d c0, .d (.lst vs), .d (.lst ws), .d c3, .d c4])], [], [], [], [], [], [], [], [], [], [], [], [], [], [], [], [], [], [], [], [], [], [], [], [], [], [], [], [], [], [], [], [], [], [], [], []]⟩) ps pn hpN (isPid o v) (fun _ => (.exit 2, ⟨[.undef, .d (.int .i64 v), .ptr (2, 0) 0, .undef, .undef, .undef, .d (.int .i64 i), .undef, .undef, .undef, .undef, .undef, .undef, .undef, .undef, .undef, .undef, .undef, .undef, .undef, .undef, .undef, .undef, .undef, .undef, .undef, .undef, .undef, .undef, .undef, .undef, .undef, .undef, .undef, .undef, .undef, .undef, .undef, .undef], [[], [], [some (.box [.d c0, .d (.lst vs), .d (.lst ws), .d c3, .d c4])], [], [], [], [], [], [], [], [], [], [], [], [], [], [], [], [], [], [], [], [], [], [], [], [], [], [], [], [], [], [], [], [], [], [], [], []]⟩)) (fun k => (.ret, ⟨[.undef, .d (.int .i64 v), .ptr (2, 0) 0, .undef, .d (.int .i64 i), .d (.int .i64 k), .d (.int .i64 i), .undef, .undef, .undef, .undef, .undef, .undef, .undef, .undef, .undef, .undef, .undef, .undef, .undef, .undef, .undef, .undef, .undef, .undef, .undef, .undef, .undef, .undef, .undef, .undef, .undef, .undef, .undef, .undef, .undef, .undef, .undef, .undef], [[], [], [some (.box [.d c0, .d (.lst vs), .d (.lst ws), .d c3, .d c4])], [], [], [], [], [], [], [], [], [], [], [], [], [], [], [], [], [], [], [], [], [], [], [], [], [], [], [], [], [], [], [], [], [], [], [], []]⟩))
      (fun _ => s550_end ho c0 c3 c4 vs ws v i o0 o1 o2 o3 o5 o6 ps pn hi hpn (lt_no ho pn))
      (fun k a x a1 h0 h1 hk he z ih => by
        obtain ⟨p, rfl⟩ := hps x (List.mem_of_getElem? hk)
        simp only [isPid] at he
        cases hs : o.cmp .eql v p with
        | true => rw [hs] at he; cases he
        | false => exact s550_go ho c0 c3 c4 vs ws v i o0 o1 o2 o3 o5 o6 ps pn k (k + 1) p z hi hpn (lt_yes ho h1) (elt_some ho ps k _ h0 hk) (by rw [eql_comm ho]; exact hs) (inc ho h0 h1 hpm) ih)
      (fun k a x e h0 h1 hk he => by
        obtain ⟨p, rfl⟩ := hps x (List.mem_of_getElem? hk)
        simp only [isPid] at he
        cases hs : o.cmp .eql v p with
        | false => rw [hs] at he; cases he
        | true =>
          rw [hs] at he
          injection he with he
          subst he
          exact s550_out ho c0 c3 c4 vs ws v i o0 o1 o2 o3 o5 o6 ps pn k p hi hpn (lt_yes ho h1) (elt_some ho ps k _ h0 hk) (by rw [eql_comm ho]; exact hs)) ()
    unfold hasPid
    unfold foldJ at l ⊢
    cases hf : foldI (isPid o v) 0 () ps with
    | ok u => rw [hf] at l; exact .inl ⟨rfl, l⟩
    | error k => rw [hf] at l; exact .inr ⟨rfl, k, l⟩
  have outer : (hasUp o v vs = false ∧ o.loop 5501 ⟨[.undef, .d (.int .i64 v), .ptr (2, 0) 0, .undef, .undef, .undef, .d (.int .i64 0), .undef, .undef, .undef, .undef, .undef, .undef, .undef, .undef, .undef, .undef, .undef, .undef, .undef, .undef, .undef, .undef, .undef, .undef, .undef, .undef, .undef, .undef, .undef, .undef, .undef, .undef, .undef, .undef, .undef, .undef, .undef, .undef], [[], [], [some (.box [.d c0, .d (.lst vs), .d (.lst ws), .d c3, .d c4])], [], [], [], [], [], [], [], [], [], [], [], [], [], [], [], [], [], [], [], [], [], [], [], [], [], [], [], [], [], [], [], [], [], [], [], []]⟩ = some (.exit 0, ⟨[.undef, .undef, .undef, .undef, .undef, .undef, .undef, .undef, .undef, .undef, .undef, .undef, .undef, .undef, .undef, .undef, .undef, .undef, .undef, .undef, .undef, .undef, .undef, .undef, .undef, .undef, .undef, .undef, .undef, .undef, .undef, .undef, .undef, .undef, .undef, .undef, .undef, .undef, .undef], [[], [], [], [], [], [], [], [], [], [], [], [], [], [], [], [], [], [], [], [], [], [], [], [], [], [], [], [], [], [], [], [], [], [], [], [], [], [], []]⟩)) ∨ (hasUp o v vs = true ∧ ∃ i k, 0 ≤ i ∧ o.loop 5501 ⟨[.undef, .d (.int .i64 v), .ptr (2, 0) 0, .undef, .undef, .undef, .d (.int .i64 0), .undef, .undef, .undef, .undef, .undef, .undef, .undef, .undef, .undef, .undef, .undef, .undef, .undef, .undef, .undef, .undef, .undef, .undef, .undef, .undef, .undef, .undef, .undef, .undef, .undef, .undef, .undef, .undef, .undef, .undef, .undef, .undef], [[], [], [some (.box [.d c0, .d (.lst vs), .d (.lst ws), .d c3, .d c4])], [], [], [], [], [], [], [], [], [], [], [], [], [], [], [], [], [], [], [], [], [], [], [], [], [], [], [], [], [], [], [], [], [], [], [], []]⟩ = some (.ret, ⟨[.undef, .undef, .undef, .undef, .d (.int .i64 i), .d (.int .i64 k), .undef, .undef, .undef, .undef, .undef, .undef, .undef, .undef, .undef, .undef, .undef, .undef, .undef, .undef, .undef, .undef, .undef, .undef, .undef, .undef, .undef, .undef, .undef, .undef, .undef, .undef, .undef, .undef, .undef, .undef, .undef, .undef, .undef], [[], [], [], [], [], [], [], [], [], [], [], [], [], [], [], [], [], [], [], [], [], [], [], [], [], [], [], [], [], [], [], [], [], [], [], [], [], [], []]⟩)) := by
    have main : ∀ (ys : List D) (j : Nat), vs.drop j = ys → j + ys.length = vs.length →
        (foldI (isUp o v) j () ys = .ok () ∧ o.loop 5501 ⟨[.undef, .d (.int .i64 v), .ptr (2, 0) 0, .undef, .undef, .undef, .d (.int .i64 j), .undef, .undef, .undef, .undef, .undef, .undef, .undef, .undef, .undef, .undef, .undef, .undef, .undef, .undef, .undef, .undef, .undef, .undef, .undef, .undef, .undef, .undef, .undef, .undef, .undef, .undef, .undef, .undef, .undef, .undef, .undef, .undef], [[], [], [some (.box [.d c0, .d (.lst vs), .d (.lst ws), .d c3, .d c4])], [], [], [], [], [], [], [], [], [], [], [], [], [], [], [], [], [], [], [], [], [], [], [], [], [], [], [], [], [], [], [], [], [], [], [], []]⟩ = some (.exit 0, ⟨[.undef, .undef, .undef, .undef, .undef, .undef, .undef, .undef, .undef, .undef, .undef, .undef, .undef, .undef, .undef, .undef, .undef, .undef, .undef, .undef, .undef, .undef, .undef, .undef, .undef, .undef, .undef, .undef, .undef, .undef, .undef, .undef, .undef, .undef, .undef, .undef, .undef, .undef, .undef], [[], [], [], [], [], [], [], [], [], [], [], [], [], [], [], [], [], [], [], [], [], [], [], [], [], [], [], [], [], [], [], [], [], [], [], [], [], [], []]⟩)) ∨ ((∃ e, foldI (isUp o v) j () ys = .error e) ∧ ∃ i k, 0 ≤ i ∧ o.loop 5501 ⟨[.undef, .d (.int .i64 v), .ptr (2, 0) 0, .undef, .undef, .undef, .d (.int .i64 j), .undef, .undef, .undef, .undef, .undef, .undef, .undef, .undef, .undef, .undef, .undef, .undef, .undef, .undef, .undef, .undef, .undef, .undef, .undef, .undef, .undef, .undef, .undef, .undef, .undef, .undef, .undef, .undef, .undef, .undef, .undef, .undef], [[], [], [some (.box [.d c0, .d (.lst vs), .d (.lst ws), .d c3, .d c4])], [], [], [], [], [], [], [], [], [], [], [], [], [], [], [], [], [], [], [], [], [], [], [], [], [], [], [], [], [], [], [], [], [], [], [], []]⟩ = some (.ret, ⟨[.undef, .undef, .undef, .undef, .d (.int .i64 i), .d (.int .i64 k), .undef, .undef, .undef, .undef, .undef, .undef, .undef, .undef, .undef, .undef, .undef, .undef, .undef, .undef, .undef, .undef, .undef, .undef, .undef, .undef, .undef, .undef, .undef, .undef, .undef, .undef, .undef, .undef, .undef, .undef, .undef, .undef, .undef], [[], [], [], [], [], [], [], [], [], [], [], [], [], [], [], [], [], [], [], [], [], [], [], [], [], [], [], [], [], [], [], [], [], [], [], [], [], [], []]⟩)) := by
      intro ys
      induction ys with
      | nil =>
        intro j _ h
        have he : (j : Int) = n := by simp at h; omega
        exact .inl ⟨rfl, by rw [he]; exact s551_end ho c0 c3 c4 vs ws v n hn (lt_no ho n)⟩
      | cons y ys ih =>
        intro j h hl
        have hk : vs[j]? = some y := by
          have : (vs.drop j)[0]? = some y := by rw [h]; rfl
          simpa using this
        have hd : vs.drop (j + 1) = ys := by
          have : (vs.drop j).drop 1 = ys := by rw [h]; rfl
          simpa [List.drop_drop] using this
        have hl' : j + 1 + ys.length = vs.length := by simp at hl; omega
        have hlt : (j : Int) < n := by omega
        have hj0 : (0 : Int) ≤ (j : Int) := by omega
        have hcast : ((j + 1 : Nat) : Int) = (j : Int) + 1 := by omega
        have ih' := ih (j + 1) hd hl'
        rw [hcast] at ih'
        have hk' : vs[((j : Int)).toNat]? = some y := by simpa using hk
        obtain ⟨o0, o1, o2, o3, o5, o6, ps, rfl, hp, hps⟩ := hx y (List.mem_of_getElem? hk)
        simp only [foldI, isUp]
        generalize (j : Int) = i at *
        rcases inner i o0 o1 o2 o3 o5 o6 ps (elt_some ho vs i _ hj0 hk') hp hps with ⟨hb, l⟩ | ⟨hb, k, l⟩
        · simp only [hb]
          rcases ih' with ⟨i1, i2⟩ | ⟨i1, i', k', i2, i3⟩
          · exact .inl ⟨i1, s551_go ho c0 c3 c4 vs ws v i (i + 1) n _ hn (lt_yes ho hlt) l (inc ho hj0 hlt hm) i2⟩
          · exact .inr ⟨i1, i', k', i2, s551_go ho c0 c3 c4 vs ws v i (i + 1) n _ hn (lt_yes ho hlt) l (inc ho hj0 hlt hm) i3⟩
        · simp only [hb]
          exact .inr ⟨⟨_, rfl⟩, i, k, hj0, s551_out ho c0 c3 c4 vs ws v i k n hn (lt_yes ho hlt) l⟩
    rcases main vs 0 rfl (by simp) with ⟨h1, h2⟩ | ⟨⟨e, h1⟩, h2⟩
    · refine .inl ⟨?_, h2⟩
      unfold hasUp foldJ
      rw [show foldI (isUp o v) 0 () vs = .ok () from h1]
    · refine .inr ⟨?_, h2⟩
      unfold hasUp foldJ
      rw [show foldI (isUp o v) 0 () vs = .error e from h1]
  rcases outer with ⟨hb, l⟩ | ⟨hb, i, k, hi, l⟩
  · exact ⟨_, _, s55_no ho c0 c3 c4 vs ws v l, by rw [hb]; exact lss1 ho (by omega)⟩
  · exact ⟨_, _, s55_yes ho c0 c3 c4 vs ws v i k l, by rw [hb]; exact lss0 ho hi⟩
theorem pairs250 (c0 c3 c4 : D) (vs ws : List D) (i : Int) (pd : Int) (nm : ByteArray) (w2 w3 w4 w5 w6 w7 w8 : D) (hi0 : 0 ≤ i) (hi : i ≤ 9223372036854775807) (hl : i ≤ ((ws.length : Nat) : Int)) (h0 : o.elt ws i = some (.agg [.int .i64 pd, .str nm, w2, w3, w4, w5, w6, w7, w8])) (hy : ∀ x ∈ ws, isWorker x) :
    (alone o ws i pd nm = true ∧ o.loop 2500 ⟨[.undef, .ptr (1, 0) 0, .undef, .d (.int .i64 i), .undef, .undef, .d (.int .i64 0), .undef, .undef, .undef, .undef, .undef, .undef, .undef, .undef, .undef, .undef, .undef, .undef, .undef, .undef, .undef, .undef, .undef, .undef, .undef, .undef, .undef, .undef, .undef, .undef, .undef, .undef, .undef, .undef, .undef, .undef, .undef, .undef, .undef, .undef, .undef, .undef, .undef, .undef, .undef, .undef, .undef, .undef, .undef, .undef, .undef, .undef, .undef, .undef, .undef, .undef, .undef, .undef, .undef], [[], [some (.box [.d c0, .d (.lst vs), .d (.lst ws), .d c3, .d c4])], [], [], [], [], [], [], [], [], [], [], [], [], [], [], [], [], [], [], [], [], [], [], [], [], [], [], [], [], [], [], [], [], [], [], [], [], [], [], [], [], [], [], [], [], [], [], [], [], [], [], [], [], [], [], [], [], [], []]⟩ = some (.exit 2, ⟨[.undef, .ptr (1, 0) 0, .undef, .d (.int .i64 i), .undef, .undef, .undef, .undef, .undef, .undef, .undef, .undef, .undef, .undef, .undef, .undef, .undef, .undef, .undef, .undef, .undef, .undef, .undef, .undef, .undef, .undef, .undef, .undef, .undef, .undef, .undef, .undef, .undef, .undef, .undef, .undef, .undef, .undef, .undef, .undef, .undef, .undef, .undef, .undef, .undef, .undef, .undef, .undef, .undef, .undef, .undef, .undef, .undef, .undef, .undef, .undef, .undef, .undef, .undef, .undef], [[], [some (.box [.d c0, .d (.lst vs), .d (.lst ws), .d c3, .d c4])], [], [], [], [], [], [], [], [], [], [], [], [], [], [], [], [], [], [], [], [], [], [], [], [], [], [], [], [], [], [], [], [], [], [], [], [], [], [], [], [], [], [], [], [], [], [], [], [], [], [], [], [], [], [], [], [], [], []]⟩)) ∨ (alone o ws i pd nm = false ∧ o.loop 2500 ⟨[.undef, .ptr (1, 0) 0, .undef, .d (.int .i64 i), .undef, .undef, .d (.int .i64 0), .undef, .undef, .undef, .undef, .undef, .undef, .undef, .undef, .undef, .undef, .undef, .undef, .undef, .undef, .undef, .undef, .undef, .undef, .undef, .undef, .undef, .undef, .undef, .undef, .undef, .undef, .undef, .undef, .undef, .undef, .undef, .undef, .undef, .undef, .undef, .undef, .undef, .undef, .undef, .undef, .undef, .undef, .undef, .undef, .undef, .undef, .undef, .undef, .undef, .undef, .undef, .undef, .undef], [[], [some (.box [.d c0, .d (.lst vs), .d (.lst ws), .d c3, .d c4])], [], [], [], [], [], [], [], [], [], [], [], [], [], [], [], [], [], [], [], [], [], [], [], [], [], [], [], [], [], [], [], [], [], [], [], [], [], [], [], [], [], [], [], [], [], [], [], [], [], [], [], [], [], [], [], [], [], []]⟩ = some (.ret, ⟨[.undef, .ptr (1, 0) 0, .d (.bool false), .d (.int .i64 i), .undef, .undef, .undef, .undef, .undef, .undef, .undef, .undef, .undef, .undef, .undef, .undef, .undef, .undef, .undef, .undef, .undef, .undef, .undef, .undef, .undef, .undef, .undef, .undef, .undef, .undef, .undef, .undef, .undef, .undef, .undef, .undef, .undef, .undef, .undef, .undef, .undef, .undef, .undef, .undef, .undef, .undef, .undef, .undef, .undef, .undef, .undef, .undef, .undef, .undef, .undef, .undef, .undef, .undef, .undef, .undef], [[], [some (.box [.d c0, .d (.lst vs), .d (.lst ws), .d c3, .d c4])], [], [], [], [], [], [], [], [], [], [], [], [], [], [], [], [], [], [], [], [], [], [], [], [], [], [], [], [], [], [], [], [], [], [], [], [], [], [], [], [], [], [], [], [], [], [], [], [], [], [], [], [], [], [], [], [], [], []]⟩)) := by
  have hlen : (((ws.take i.toNat).length : Nat) : Int) = i := by rw [List.length_take]; omega
  have hin : ∀ (k : Int) (x : D), 0 ≤ k → k < i → (ws.take i.toNat)[k.toNat]? = some x → ws[k.toNat]? = some x := by
    intro k x k0 k1 hk
    rw [List.getElem?_take] at hk
    split at hk
    · exact hk
    · cases hk
  have l := loop_list (o := o) 2500 (fun k (_ : Unit) => ⟨[.undef, .ptr (1, 0) 0, .undef, .d (.int .i64 i), .undef, .undef, .d (.int .i64 k), .undef, .undef, .undef, .undef, .undef, .undef, .undef, .undef, .undef, .undef, .undef, .undef, .undef, .undef, .undef, .undef, .undef, .undef, .undef, .undef, .undef, .undef, .undef, .undef, .undef, .undef, .undef, .undef, .undef, .undef, .undef, .undef, .undef, .undef, .undef, .undef, .undef, .undef, .undef, .undef, .undef, .undef, .undef, .undef, .undef, .undef, .undef, .undef, .undef, .undef, .undef, .undef, .undef], [[], [some (.box [.d c0, .d (.lst vs), .d (.lst ws), .d c3, .d c4])], [], [], [], [], [], [], [], [], [], [], [], [], [], [], [], [], [], [], [], [], [], [], [], [], [], [], [], [], [], [], [], [], [], [], [], [], [], [], [], [], [], [], [], [], [], [], [], [], [], [], [], [], [], [], [], [], [], []]⟩) (ws.take i.toNat) i hlen (clash o pd nm) (fun _ => (.exit 2, ⟨[.undef, .ptr (1, 0) 0, .undef, .d (.int .i64 i), .undef, .undef, .undef, .undef, .undef, .undef, .undef, .undef, .undef, .undef, .undef, .undef, .undef, .undef, .undef, .undef, .undef, .undef, .undef, .undef, .undef, .undef, .undef, .undef, .undef, .undef, .undef, .undef, .undef, .undef, .undef, .undef, .undef, .undef, .undef, .undef, .undef, .undef, .undef, .undef, .undef, .undef, .undef, .undef, .undef, .undef, .undef, .undef, .undef, .undef, .undef, .undef, .undef, .undef, .undef, .undef], [[], [some (.box [.d c0, .d (.lst vs), .d (.lst ws), .d c3, .d c4])], [], [], [], [], [], [], [], [], [], [], [], [], [], [], [], [], [], [], [], [], [], [], [], [], [], [], [], [], [], [], [], [], [], [], [], [], [], [], [], [], [], [], [], [], [], [], [], [], [], [], [], [], [], [], [], [], [], []]⟩)) (fun _ => (.ret, ⟨[.undef, .ptr (1, 0) 0, .d (.bool false), .d (.int .i64 i), .undef, .undef, .undef, .undef, .undef, .undef, .undef, .undef, .undef, .undef, .undef, .undef, .undef, .undef, .undef, .undef, .undef, .undef, .undef, .undef, .undef, .undef, .undef, .undef, .undef, .undef, .undef, .undef, .undef, .undef, .undef, .undef, .undef, .undef, .undef, .undef, .undef, .undef, .undef, .undef, .undef, .undef, .undef, .undef, .undef, .undef, .undef, .undef, .undef, .undef, .undef, .undef, .undef, .undef, .undef, .undef], [[], [some (.box [.d c0, .d (.lst vs), .d (.lst ws), .d c3, .d c4])], [], [], [], [], [], [], [], [], [], [], [], [], [], [], [], [], [], [], [], [], [], [], [], [], [], [], [], [], [], [], [], [], [], [], [], [], [], [], [], [], [], [], [], [], [], [], [], [], [], [], [], [], [], [], [], [], [], []]⟩))
    (fun _ => s250_end ho c0 c3 c4 vs ws i (lt_no ho i))
    (fun k a x a1 k0 k1 hk he z ih => by
      have hk' := hin k x k0 k1 hk
      obtain ⟨yd, ym, y2, y3, y4, y5, y6, y7, y8, rfl⟩ := hy x (List.mem_of_getElem? hk')
      simp only [clash] at he
      cases g1 : o.cmp .eql yd pd with
      | true => rw [g1] at he; cases he
      | false =>
        rw [g1] at he
        simp only at he
        cases g2 : o.sCmp .eql ym nm with
        | true => rw [g2] at he; cases he
        | false => exact s250_go ho c0 c3 c4 vs ws i k (k + 1) pd nm w2 w3 w4 w5 w6 w7 w8 yd ym y2 y3 y4 y5 y6 y7 y8 z (lt_yes ho k1) h0 (elt_some ho ws k _ k0 hk') g1 g2 (inc ho k0 k1 hi) ih)
    (fun k a x e k0 k1 hk he => by
      have hk' := hin k x k0 k1 hk
      obtain ⟨yd, ym, y2, y3, y4, y5, y6, y7, y8, rfl⟩ := hy x (List.mem_of_getElem? hk')
      simp only [clash] at he
      cases g1 : o.cmp .eql yd pd with
      | true => exact s250_out1 ho c0 c3 c4 vs ws i k 0 pd nm w2 w3 w4 w5 w6 w7 w8 yd ym y2 y3 y4 y5 y6 y7 y8 (.norm, ⟨[], []⟩) (lt_yes ho k1) h0 (elt_some ho ws k _ k0 hk') g1
      | false =>
        rw [g1] at he
        simp only at he
        cases g2 : o.sCmp .eql ym nm with
        | false => rw [g2] at he; cases he
        | true => exact s250_out2 ho c0 c3 c4 vs ws i k 0 pd nm w2 w3 w4 w5 w6 w7 w8 yd ym y2 y3 y4 y5 y6 y7 y8 (.norm, ⟨[], []⟩) (lt_yes ho k1) h0 (elt_some ho ws k _ k0 hk') g1 g2) ()
  unfold alone
  unfold foldR at l ⊢
  cases hf : foldE (clash o pd nm) () (ws.take i.toNat) with
  | ok u => rw [hf] at l; exact .inl ⟨rfl, l⟩
  | error u => rw [hf] at l; exact .inr ⟨rfl, l⟩
theorem pairs260 (c0 c3 c4 : D) (vs ws : List D) (n i : Int) (pd : Int) (nm : ByteArray) (w2 w3 w4 w5 w6 w7 w8 : D) (hi0 : 0 ≤ i) (hi : i ≤ 9223372036854775807) (hl : i ≤ ((ws.length : Nat) : Int)) (hy : ∀ x ∈ ws, isWorker x) (ys : List D) (hys : ys = ws.take i.toNat) :
    (alone o ws i pd nm = true ∧ o.loop 2600 ⟨[.undef, .ptr (1, 0) 0, .undef, .undef, .ptr (4, 0) 0, .undef, .undef, .undef, .d (.lst ws), .d (.int .i64 n), .d (.int .i64 i), .undef, .undef, .undef, .undef, .undef, .undef, .undef, .d (.lst ys), .d (.int .i64 i), .d (.int .i64 0), .undef, .undef, .undef, .undef, .undef, .undef, .undef, .undef, .undef, .undef, .undef, .undef, .undef, .undef, .undef, .undef, .undef, .undef, .undef, .undef, .undef, .undef], [[], [some (.box [.d c0, .d (.lst vs), .d (.lst ws), .d c3, .d c4])], [], [], [some (.box [.d (.int .i64 pd), .d (.str nm), .d w2, .d w3, .d w4, .d w5, .d w6, .d w7, .d w8])], [], [], [], [], [], [], [], [], [], [], [], [], [], [], [], [], [], [], [], [], [], [], [], [], [], [], [], [], [], [], [], [], [], [], [], [], [], []]⟩ = some (.exit 2, ⟨[.undef, .ptr (1, 0) 0, .undef, .undef, .ptr (4, 0) 0, .undef, .undef, .undef, .d (.lst ws), .d (.int .i64 n), .d (.int .i64 i), .undef, .undef, .undef, .undef, .undef, .undef, .undef, .undef, .undef, .undef, .undef, .undef, .undef, .undef, .undef, .undef, .undef, .undef, .undef, .undef, .undef, .undef, .undef, .undef, .undef, .undef, .undef, .undef, .undef, .undef, .undef, .undef], [[], [some (.box [.d c0, .d (.lst vs), .d (.lst ws), .d c3, .d c4])], [], [], [some (.box [.d (.int .i64 pd), .d (.str nm), .d w2, .d w3, .d w4, .d w5, .d w6, .d w7, .d w8])], [], [], [], [], [], [], [], [], [], [], [], [], [], [], [], [], [], [], [], [], [], [], [], [], [], [], [], [], [], [], [], [], [], [], [], [], [], []]⟩)) ∨ (alone o ws i pd nm = false ∧ o.loop 2600 ⟨[.undef, .ptr (1, 0) 0, .undef, .undef, .ptr (4, 0) 0, .undef, .undef, .undef, .d (.lst ws), .d (.int .i64 n), .d (.int .i64 i), .undef, .undef, .undef, .undef, .undef, .undef, .undef, .d (.lst ys), .d (.int .i64 i), .d (.int .i64 0), .undef, .undef, .undef, .undef, .undef, .undef, .undef, .undef, .undef, .undef, .undef, .undef, .undef, .undef, .undef, .undef, .undef, .undef, .undef, .undef, .undef, .undef], [[], [some (.box [.d c0, .d (.lst vs), .d (.lst ws), .d c3, .d c4])], [], [], [some (.box [.d (.int .i64 pd), .d (.str nm), .d w2, .d w3, .d w4, .d w5, .d w6, .d w7, .d w8])], [], [], [], [], [], [], [], [], [], [], [], [], [], [], [], [], [], [], [], [], [], [], [], [], [], [], [], [], [], [], [], [], [], [], [], [], [], []]⟩ = some (.ret, ⟨[.undef, .ptr (1, 0) 0, .d (.bool false), .undef, .ptr (4, 0) 0, .undef, .undef, .undef, .d (.lst ws), .d (.int .i64 n), .d (.int .i64 i), .undef, .undef, .undef, .undef, .undef, .undef, .undef, .undef, .undef, .undef, .undef, .undef, .undef, .undef, .undef, .undef, .undef, .undef, .undef, .undef, .undef, .undef, .undef, .undef, .undef, .undef, .undef, .undef, .undef, .undef, .undef, .undef], [[], [some (.box [.d c0, .d (.lst vs), .d (.lst ws), .d c3, .d c4])], [], [], [some (.box [.d (.int .i64 pd), .d (.str nm), .d w2, .d w3, .d w4, .d w5, .d w6, .d w7, .d w8])], [], [], [], [], [], [], [], [], [], [], [], [], [], [], [], [], [], [], [], [], [], [], [], [], [], [], [], [], [], [], [], [], [], [], [], [], [], []]⟩)) := by
  have hlen : ((ys.length : Nat) : Int) = i := by rw [hys, List.length_take]; omega
  have l := loop_list (o := o) 2600 (fun k (_ : Unit) => ⟨[.undef, .ptr (1, 0) 0, .undef, .undef, .ptr (4, 0) 0, .undef, .undef, .undef, .d (.lst ws), .d (.int .i64 n), .d (.int .i64 i), .undef, .undef, .undef, .undef, .undef, .undef, .undef, .d (.lst ys), .d (.int .i64 i), .d (.int .i64 k), .undef, .undef, .undef, .undef, .undef, .undef, .undef, .undef, .undef, .undef, .undef, .undef, .undef, .undef, .undef, .undef, .undef, .undef, .undef, .undef, .undef, .undef], [[], [some (.box [.d c0, .d (.lst vs), .d (.lst ws), .d c3, .d c4])], [], [], [some (.box [.d (.int .i64 pd), .d (.str nm), .d w2, .d w3, .d w4, .d w5, .d w6, .d w7, .d w8])], [], [], [], [], [], [], [], [], [], [], [], [], [], [], [], [], [], [], [], [], [], [], [], [], [], [], [], [], [], [], [], [], [], [], [], [], [], []]⟩) ys i hlen (clash o pd nm) (fun _ => (.exit 2, ⟨[.undef, .ptr (1, 0) 0, .undef, .undef, .ptr (4, 0) 0, .undef, .undef, .undef, .d (.lst ws), .d (.int .i64 n), .d (.int .i64 i), .undef, .undef, .undef, .undef, .undef, .undef, .undef, .undef, .undef, .undef, .undef, .undef, .undef, .undef, .undef, .undef, .undef, .undef, .undef, .undef, .undef, .undef, .undef, .undef, .undef, .undef, .undef, .undef, .undef, .undef, .undef, .undef], [[], [some (.box [.d c0, .d (.lst vs), .d (.lst ws), .d c3, .d c4])], [], [], [some (.box [.d (.int .i64 pd), .d (.str nm), .d w2, .d w3, .d w4, .d w5, .d w6, .d w7, .d w8])], [], [], [], [], [], [], [], [], [], [], [], [], [], [], [], [], [], [], [], [], [], [], [], [], [], [], [], [], [], [], [], [], [], [], [], [], [], []]⟩)) (fun _ => (.ret, ⟨[.undef, .ptr (1, 0) 0, .d (.bool false), .undef, .ptr (4, 0) 0, .undef, .undef, .undef, .d (.lst ws), .d (.int .i64 n), .d (.int .i64 i), .undef, .undef, .undef, .undef, .undef, .undef, .undef, .undef, .undef, .undef, .undef, .undef, .undef, .undef, .undef, .undef, .undef, .undef, .undef, .undef, .undef, .undef, .undef, .undef, .undef, .undef, .undef, .undef, .undef, .undef, .undef, .undef], [[], [some (.box [.d c0, .d (.lst vs), .d (.lst ws), .d c3, .d c4])], [], [], [some (.box [.d (.int .i64 pd), .d (.str nm), .d w2, .d w3, .d w4, .d w5, .d w6, .d w7, .d w8])], [], [], [], [], [], [], [], [], [], [], [], [], [], [], [], [], [], [], [], [], [], [], [], [], [], [], [], [], [], [], [], [], [], [], [], [], [], []]⟩))
    (fun _ => s260_end ho c0 c3 c4 vs ws ys n i pd nm w2 w3 w4 w5 w6 w7 w8 (lt_no ho i))
    (fun k a x a1 k0 k1 hk he z ih => by
      obtain ⟨yd, ym, y2, y3, y4, y5, y6, y7, y8, rfl⟩ := hy x (by rw [hys] at hk; exact List.mem_of_mem_take (List.mem_of_getElem? hk))
      simp only [clash] at he
      cases g1 : o.cmp .eql yd pd with
      | true => rw [g1] at he; cases he
      | false =>
        rw [g1] at he
        simp only at he
        cases g2 : o.sCmp .eql ym nm with
        | true => rw [g2] at he; cases he
        | false => exact s260_go ho c0 c3 c4 vs ws ys n i k (k + 1) pd nm w2 w3 w4 w5 w6 w7 w8 yd ym y2 y3 y4 y5 y6 y7 y8 z (lt_yes ho k1) (elt_some ho ys k _ k0 hk) g1 g2 (inc ho k0 k1 hi) ih)
    (fun k a x e k0 k1 hk he => by
      obtain ⟨yd, ym, y2, y3, y4, y5, y6, y7, y8, rfl⟩ := hy x (by rw [hys] at hk; exact List.mem_of_mem_take (List.mem_of_getElem? hk))
      simp only [clash] at he
      cases g1 : o.cmp .eql yd pd with
      | true => exact s260_out1 ho c0 c3 c4 vs ws ys n i k 0 pd nm w2 w3 w4 w5 w6 w7 w8 yd ym y2 y3 y4 y5 y6 y7 y8 (.norm, ⟨[], []⟩) (lt_yes ho k1) (elt_some ho ys k _ k0 hk) g1
      | false =>
        rw [g1] at he
        simp only at he
        cases g2 : o.sCmp .eql ym nm with
        | false => rw [g2] at he; cases he
        | true => exact s260_out2 ho c0 c3 c4 vs ws ys n i k 0 pd nm w2 w3 w4 w5 w6 w7 w8 yd ym y2 y3 y4 y5 y6 y7 y8 (.norm, ⟨[], []⟩) (lt_yes ho k1) (elt_some ho ys k _ k0 hk) g1 g2) ()
  unfold alone
  rw [← hys]
  unfold foldR at l ⊢
  cases hf : foldE (clash o pd nm) () ys with
  | ok u => rw [hf] at l; exact .inl ⟨rfl, l⟩
  | error u => rw [hf] at l; exact .inr ⟨rfl, l⟩
theorem oneEach_both (c0 c3 c4 : D) (vs ws : List D) (hm : ((vs.length : Nat) : Int) ≤ 9223372036854775807) (hx : ∀ x ∈ vs, isOver x) (hw : ((ws.length : Nat) : Int) ≤ 9223372036854775807) (hy : ∀ x ∈ ws, isWorker x) :
    ∃ v, o.call 25 [.agg [.d c0, .d (.lst vs), .d (.lst ws), .d c3, .d c4]] [] = some ⟨.d (.bool v), [], []⟩ ∧ o.call 26 [.agg [.d c0, .d (.lst vs), .d (.lst ws), .d c3, .d c4]] [] = some ⟨.d (.bool v), [], []⟩ := by
  have hn := ho.len ws
  obtain ⟨n, hN⟩ : ∃ n, ((ws.length : Nat) : Int) = n := ⟨_, rfl⟩
  rw [hN] at hn hw
  have l1 := loop_listI (o := o) 2501 (fun i (_ : Unit) => ⟨[.undef, .ptr (1, 0) 0, .undef, .d (.int .i64 i), .undef, .undef, .undef, .undef, .undef, .undef, .undef, .undef, .undef, .undef, .undef, .undef, .undef, .undef, .undef, .undef, .undef, .undef, .undef, .undef, .undef, .undef, .undef, .undef, .undef, .undef, .undef, .undef, .undef, .undef, .undef, .undef, .undef, .undef, .undef, .undef, .undef, .undef, .undef, .undef, .undef, .undef, .undef, .undef, .undef, .undef, .undef, .undef, .undef, .undef, .undef, .undef, .undef, .undef, .undef, .undef], [[], [some (.box [.d c0, .d (.lst vs), .d (.lst ws), .d c3, .d c4])], [], [], [], [], [], [], [], [], [], [], [], [], [], [], [], [], [], [], [], [], [], [], [], [], [], [], [], [], [], [], [], [], [], [], [], [], [], [], [], [], [], [], [], [], [], [], [], [], [], [], [], [], [], [], [], [], [], []]⟩) ws n hN (oneOk o vs ws) (fun _ => (.exit 0, ⟨[.undef, .undef, .undef, .undef, .undef, .undef, .undef, .undef, .undef, .undef, .undef, .undef, .undef, .undef, .undef, .undef, .undef, .undef, .undef, .undef, .undef, .undef, .undef, .undef, .undef, .undef, .undef, .undef, .undef, .undef, .undef, .undef, .undef, .undef, .undef, .undef, .undef, .undef, .undef, .undef, .undef, .undef, .undef, .undef, .undef, .undef, .undef, .undef, .undef, .undef, .undef, .undef, .undef, .undef, .undef, .undef, .undef, .undef, .undef, .undef], [[], [], [], [], [], [], [], [], [], [], [], [], [], [], [], [], [], [], [], [], [], [], [], [], [], [], [], [], [], [], [], [], [], [], [], [], [], [], [], [], [], [], [], [], [], [], [], [], [], [], [], [], [], [], [], [], [], [], [], []]⟩)) (fun _ => (.ret, ⟨[.undef, .undef, .d (.bool false), .undef, .undef, .undef, .undef, .undef, .undef, .undef, .undef, .undef, .undef, .undef, .undef, .undef, .undef, .undef, .undef, .undef, .undef, .undef, .undef, .undef, .undef, .undef, .undef, .undef, .undef, .undef, .undef, .undef, .undef, .undef, .undef, .undef, .undef, .undef, .undef, .undef, .undef, .undef, .undef, .undef, .undef, .undef, .undef, .undef, .undef, .undef, .undef, .undef, .undef, .undef, .undef, .undef, .undef, .undef, .undef, .undef], [[], [], [], [], [], [], [], [], [], [], [], [], [], [], [], [], [], [], [], [], [], [], [], [], [], [], [], [], [], [], [], [], [], [], [], [], [], [], [], [], [], [], [], [], [], [], [], [], [], [], [], [], [], [], [], [], [], [], [], []]⟩))
    (fun _ => s251_end ho c0 c3 c4 vs ws n hn (lt_no ho n))
    (fun i a x a1 i0 i1 hk he z ih => by
      obtain ⟨pd, nm, w2, w3, w4, w5, w6, w7, w8, rfl⟩ := hy x (List.mem_of_getElem? hk)
      have h0 := elt_some ho ws i _ i0 hk
      obtain ⟨a, b, c, g⟩ := kid55 ho c0 c3 c4 vs ws pd hm hx
      have pp := pairs250 ho c0 c3 c4 vs ws i pd nm w2 w3 w4 w5 w6 w7 w8 i0 (by omega) (by omega) h0 hy
      simp only [oneOk] at he
      cases hu : hasUp o pd vs with
      | false => rw [hu] at he; cases he
      | true =>
        rw [hu] at g he
        rcases pp with ⟨hb, l⟩ | ⟨hb, l⟩
        · exact s251_go ho c0 c3 c4 vs ws n i (i + 1) a b pd nm w2 w3 w4 w5 w6 w7 w8 z hn (lt_yes ho i1) h0 c g l (inc ho i0 i1 hw) ih
        · rw [hb] at he; cases he)
    (fun i a x e i0 i1 hk he => by
      obtain ⟨pd, nm, w2, w3, w4, w5, w6, w7, w8, rfl⟩ := hy x (List.mem_of_getElem? hk)
      have h0 := elt_some ho ws i _ i0 hk
      obtain ⟨a, b, c, g⟩ := kid55 ho c0 c3 c4 vs ws pd hm hx
      have pp := pairs250 ho c0 c3 c4 vs ws i pd nm w2 w3 w4 w5 w6 w7 w8 i0 (by omega) (by omega) h0 hy
      simp only [oneOk] at he
      cases hu : hasUp o pd vs with
      | false => rw [hu] at g; exact s251_out1 ho c0 c3 c4 vs ws n i a b pd nm w2 w3 w4 w5 w6 w7 w8 hn (lt_yes ho i1) h0 c g
      | true =>
        rw [hu] at g he
        rcases pp with ⟨hb, l⟩ | ⟨hb, l⟩
        · rw [hb] at he; cases he
        · exact s251_out2 ho c0 c3 c4 vs ws n i a b pd nm w2 w3 w4 w5 w6 w7 w8 hn (lt_yes ho i1) h0 c g l) ()
  have l2 := loop_listI (o := o) 2601 (fun i (_ : Unit) => ⟨[.undef, .ptr (1, 0) 0, .undef, .undef, .undef, .undef, .undef, .undef, .d (.lst ws), .d (.int .i64 n), .d (.int .i64 i), .undef, .undef, .undef, .undef, .undef, .undef, .undef, .undef, .undef, .undef, .undef, .undef, .undef, .undef, .undef, .undef, .undef, .undef, .undef, .undef, .undef, .undef, .undef, .undef, .undef, .undef, .undef, .undef, .undef, .undef, .undef, .undef], [[], [some (.box [.d c0, .d (.lst vs), .d (.lst ws), .d c3, .d c4])], [], [], [], [], [], [], [], [], [], [], [], [], [], [], [], [], [], [], [], [], [], [], [], [], [], [], [], [], [], [], [], [], [], [], [], [], [], [], [], [], []]⟩) ws n hN (oneOk o vs ws) (fun _ => (.exit 0, ⟨[.undef, .undef, .undef, .undef, .undef, .undef, .undef, .undef, .undef, .undef, .undef, .undef, .undef, .undef, .undef, .undef, .undef, .undef, .undef, .undef, .undef, .undef, .undef, .undef, .undef, .undef, .undef, .undef, .undef, .undef, .undef, .undef, .undef, .undef, .undef, .undef, .undef, .undef, .undef, .undef, .undef, .undef, .undef], [[], [], [], [], [], [], [], [], [], [], [], [], [], [], [], [], [], [], [], [], [], [], [], [], [], [], [], [], [], [], [], [], [], [], [], [], [], [], [], [], [], [], []]⟩)) (fun _ => (.ret, ⟨[.undef, .undef, .d (.bool false), .undef, .undef, .undef, .undef, .undef, .undef, .undef, .undef, .undef, .undef, .undef, .undef, .undef, .undef, .undef, .undef, .undef, .undef, .undef, .undef, .undef, .undef, .undef, .undef, .undef, .undef, .undef, .undef, .undef, .undef, .undef, .undef, .undef, .undef, .undef, .undef, .undef, .undef, .undef, .undef], [[], [], [], [], [], [], [], [], [], [], [], [], [], [], [], [], [], [], [], [], [], [], [], [], [], [], [], [], [], [], [], [], [], [], [], [], [], [], [], [], [], [], []]⟩))
    (fun _ => s261_end ho c0 c3 c4 vs ws n (lt_no ho n))
    (fun i a x a1 i0 i1 hk he z ih => by
      obtain ⟨pd, nm, w2, w3, w4, w5, w6, w7, w8, rfl⟩ := hy x (List.mem_of_getElem? hk)
      have h0 := elt_some ho ws i _ i0 hk
      have c := has56 ho vs pd nm w2 w3 w4 w5 w6 w7 w8 hm hx
      have mi : o.minus i 0 = i := by rw [ho.minus]; omega
      have sb : o.sub ws 0 i = some (ws.take i.toNat) := by rw [ho.sub]; simp [subI]; omega
      have ly : o.len (ws.take i.toNat) = i := by rw [ho.len, List.length_take]; omega
      have pp := pairs260 ho c0 c3 c4 vs ws n i pd nm w2 w3 w4 w5 w6 w7 w8 i0 (by omega) (by omega) hy _ rfl
      simp only [oneOk] at he
      cases hu : hasUp o pd vs with
      | false => rw [hu] at he; cases he
      | true =>
        rw [hu] at c he
        rcases pp with ⟨hb, l⟩ | ⟨hb, l⟩
        · exact s261_go ho c0 c3 c4 vs ws _ n i (i + 1) pd nm w2 w3 w4 w5 w6 w7 w8 z (lt_yes ho i1) h0 mi sb ly l c (inc ho i0 i1 hw) ih
        · rw [hb] at he; cases he)
    (fun i a x e i0 i1 hk he => by
      obtain ⟨pd, nm, w2, w3, w4, w5, w6, w7, w8, rfl⟩ := hy x (List.mem_of_getElem? hk)
      have h0 := elt_some ho ws i _ i0 hk
      have c := has56 ho vs pd nm w2 w3 w4 w5 w6 w7 w8 hm hx
      have mi : o.minus i 0 = i := by rw [ho.minus]; omega
      have sb : o.sub ws 0 i = some (ws.take i.toNat) := by rw [ho.sub]; simp [subI]; omega
      have ly : o.len (ws.take i.toNat) = i := by rw [ho.len, List.length_take]; omega
      have pp := pairs260 ho c0 c3 c4 vs ws n i pd nm w2 w3 w4 w5 w6 w7 w8 i0 (by omega) (by omega) hy _ rfl
      simp only [oneOk] at he
      rcases pp with ⟨hb, l⟩ | ⟨hb, l⟩
      · cases hu : hasUp o pd vs with
        | false => rw [hu] at c; exact s261_out2 ho c0 c3 c4 vs ws _ n i 0 pd nm w2 w3 w4 w5 w6 w7 w8 (.norm, ⟨[], []⟩) (lt_yes ho i1) h0 mi sb ly l c
        | true => rw [hu, hb] at he; cases he
      · exact s261_out1 ho c0 c3 c4 vs ws _ n i 0 pd nm w2 w3 w4 w5 w6 w7 w8 (.norm, ⟨[], []⟩) (lt_yes ho i1) h0 mi sb ly l) ()
  unfold foldJ at l1 l2
  cases hf : foldI (oneOk o vs ws) 0 () ws with
  | ok u => rw [hf] at l1 l2; exact ⟨true, s25_yes ho c0 c3 c4 vs ws l1, s26_yes ho c0 c3 c4 vs ws n hn l2⟩
  | error u => rw [hf] at l1 l2; exact ⟨false, s25_no ho c0 c3 c4 vs ws l1, s26_no ho c0 c3 c4 vs ws n hn l2⟩
theorem oneEach_law {n : Nat} {ds : List D} (h : Fits Try.prog n 40 ds) : o.call 7 [.agg (ds.map .d)] [] = some ⟨.d (.bool true), [], []⟩ := by
  refine OneEach_join ho h fun _ => ?_
  cases n with
  | zero => simp [Fits] at h
  | succ n =>
    obtain ⟨c0, c1, c2, c3, c4, rfl, h0, h1, h2, h3, h4⟩ := fits40 h
    obtain ⟨vs, m, em, e, hl, hx⟩ := fits_lst Try.underlying37 h1
    injection e with e
    subst e
    obtain ⟨ws, m', em', e, hl', hx'⟩ := fits_lst Try.underlying38 h2
    injection e with e
    subst e
    subst em
    injection em' with em'
    subst em'
    refine oneEach_both ho c0 c3 c4 vs ws (by unfold maxLen at hl; omega) (fun x hm => ?_) (by unfold maxLen at hl'; omega) fun x hm => ?_
    · obtain ⟨f1, f2⟩ := hx x hm
      rw [show aggT Try.prog 25 = true by unfold aggT; rw [Try.underlying25]] at f2
      cases m with
      | zero => simp [Fits] at f1
      | succ m =>
        obtain ⟨d0, d1, d2, d3, d4, d5, d6, e1, g0, g1, g2, g3, g4, g5, g6⟩ := fits25 f1
        obtain ⟨ps, m2, em2, e2, hl2, hx2⟩ := fits_lst Try.underlying23 g4
        injection e2 with e2
        subst e2
        refine ⟨d0, d1, d2, d3, d5, d6, ps, by rw [many_agg f2, e1], by unfold maxLen at hl2; omega, fun y hy => ?_⟩
        obtain ⟨f3, f4⟩ := hx2 y hy
        rw [show aggT Try.prog 3 = false by unfold aggT; rw [Try.underlying3]] at f4
        obtain ⟨i, e3, _⟩ := fits_int Try.underlying3 f3
        rw [one_cell f4] at e3
        injection e3 with e3
        exact ⟨i, e3⟩
    · obtain ⟨f1, f2⟩ := hx' x hm
      rw [show aggT Try.prog 114 = true by unfold aggT; rw [Try.underlying114]] at f2
      cases m with
      | zero => simp [Fits] at f1
      | succ m =>
        obtain ⟨d0, d1, d2, d3, d4, d5, d6, d7, d8, e1, g0, g1, g2, g3, g4, g5⟩ := fits114 f1
        obtain ⟨pd, e2, _⟩ := fits_int Try.underlying3 g0
        injection e2 with e2
        subst e2
        obtain ⟨nm, e2, _⟩ := fits_str Try.underlying9 g1
        injection e2 with e2
        subst e2
        exact ⟨pd, nm, d2, d3, d4, d5, d6, d7, d8, by rw [many_agg f2, e1]⟩
end T1
