/- The abstract interpreter: its values, its code, and how it runs. -/
import GoSem.Core.Code
set_option linter.unusedVariables false
set_option linter.unusedSimpArgs false
set_option linter.unnecessarySimpa false
set_option linter.unusedSectionVars false
namespace Go.Vi

/-- Deep data: what never changes any more. -/
inductive D where
  | int (k : IntKind) (n : Int)
  | bool (b : Bool)
  | str (s : ByteArray)
  | lst (xs : List D)
  | agg (cs : List D)
  | own (sz : Nat × Nat) (xs : List D)
  deriving Inhabited

abbrev Id := Nat × Nat
/-- An element's type, and how many cells it has. -/
abbrev Elt := Nat × Nat

/-- What a temporary holds. -/
inductive AV where
  | undef
  | bare
  | d (x : D)
  | agg (cs : List AV)
  | tup (vs : List AV)
  | nilp
  | emp
  | ptr (r : Id) (off : Nat)
  | prow (r : Id) (sz : Elt) (i : Int) (off : Nat)
  | sp (cs : List D) (off : Nat)
  | arr (r : Id) (sz : Elt) (rng : Option (Int × Int)) (full : Bool)
  | fn (f : FuncId) (cap : List AV)
  deriving Inhabited

inductive Obj where
  | box (cs : List AV)
  | rows (sz : Elt) (xs : List D)
  | orows (sz : Elt) (xs : List D)
  | hrows (sz : Elt) (xs : List D) (i : Int) (off : Nat) (q : Id) (esz : Elt)
  | gone (sz : Elt) (xs : List D)
  deriving Inhabited

abbrev Sto := List (List (Option Obj))

structure St where
  env : List AV
  sto : Sto

inductive VX where
  | tmp (t : Nat)
  | const (a : AV)

inductive CMode where
  | pure | frz | ref | bor
  deriving DecidableEq

inductive Conv where
  | int (k : IntKind)
  | str
  | bytesToStr

inductive VOp where
  | move (x : VX)
  | pick (c a b : VX)
  | alloc (cs : List AV)
  | box (x : VX)
  | build (zero : List AV) (parts : List (Nat × Nat × VX))
  | buildSlice (sz : Elt) (agg : Bool) (zero : List AV) (len : Nat) (parts : List (Nat × VX))
  | buildRow (sz : Elt) (agg : Bool) (zero : List AV) (len : Nat) (parts : List (Nat × VX))
  | buildO (sz : Elt) (x : VX)
  | appendO (sz : Elt) (bytes : Nat) (x y : VX)
  | lend (x : VX)
  | load (agg : Bool) (n : Nat) (a : VX)
  | store (n : Nat) (a x : VX)
  | storeP (n : Nat) (a x : VX)
  | bin (isB : Bool) (op : BinOp) (x y : VX)
  | eqNil (ne : Bool) (x : VX)
  | neg (x : VX)
  | not (x : VX)
  | conv (c : Conv) (x : VX)
  | mkfn (f : FuncId) (cap : List VX)
  | makeSlice (sz : Elt) (bytes : Nat) (agg : Bool) (zero : List AV) (l c : VX)
  | slice (isStr : Bool) (sz : Elt) (x : VX) (lo hi mx : Option VX)
  | fieldAddr (off : Nat) (x : VX)
  | field (agg : Bool) (off n : Nat) (x : VX)
  | indexAddr (sz : Elt) (x i : VX)
  | index (x i : VX)
  | indexArr (agg : Bool) (len n : Nat) (x i : VX)
  | extract (x : VX) (i : Nat)
  | len (isS : Bool) (x : VX)
  | append (sz : Elt) (bytes : Nat) (x y : VX)
  | copy (sz : Elt) (x y : VX)
  | call (f : FuncId) (m : CMode) (raw : Bool) (args : List VX)
  | callv (f : VX) (m : CMode) (raw : Bool) (args : List VX)

structure VOper where
  dst : Option Nat
  guard : Option (Nat × Bool)
  op : VOp

inductive VC where
  | skip
  | reg (ops : List VOper)
  | regL (ops : List VOper) (x : VX)
  | clone (x y c b m t dst : Nat) (sz : Elt) (bytes : Nat) (agg : Bool) (zero : List AV)
  | seq (a b : VC)
  | cond (c : VX) (a b : VC)
  | block (id : Nat) (c : VC)
  | loop (prom : List (Nat × Option Nat × Nat × Elt × Bool)) (liveE liveS : List Nat) (key : Nat)
  | exit (id : Nat)
  | ret

inductive Out where
  | norm | ret | exit (id : Nat)

structure CRes where
  ret : AV
  pars : List (Option Obj)
  extra : List (Option Obj)

/-- What the interpreter asks for: the calls and the loops; and what numbers, texts and lists come to. -/
inductive Ora where
  | mk (call : FuncId → List AV → List (Option Obj) → Option CRes) (loop : Nat → St → Option (Out × St)) (ar : BinOp → IntKind → Int → Int → Int) (wrap : IntKind → Int → Int) (plus : Int → Int → Int) (minus : Int → Int → Int) (cmp : BinOp → Int → Int → Bool) (isZero : Int → Bool) (sCmp : BinOp → ByteArray → ByteArray → Bool) (sAdd : ByteArray → ByteArray → ByteArray) (sFits : ByteArray → ByteArray → Bool) (sLen : ByteArray → Int) (sIdx : ByteArray → Int → Option Int) (sSub : ByteArray → Int → Int → Option ByteArray) (bytesOf : ByteArray → List D) (ofBytes : List D → Option ByteArray) (len : List D → Int) (elt : List D → Int → Option D) (sub : List D → Int → Int → Option (List D)) (app : List D → List D → List D) (set : List D → Int → D → List D) (rep : Int → D → List D) (fits : Nat → Nat → List D → Bool) (fitsN : Nat → Int → Bool) (over : List D → List D → List D) (froze : List D → List D) (closed : List D → Bool) (flat : List D → Bool)

def Ora.call : Ora → FuncId → List AV → List (Option Obj) → Option CRes
  | .mk x _ _ _ _ _ _ _ _ _ _ _ _ _ _ _ _ _ _ _ _ _ _ _ _ _ _ _ => x
def Ora.loop : Ora → Nat → St → Option (Out × St)
  | .mk _ x _ _ _ _ _ _ _ _ _ _ _ _ _ _ _ _ _ _ _ _ _ _ _ _ _ _ => x
def Ora.ar : Ora → BinOp → IntKind → Int → Int → Int
  | .mk _ _ x _ _ _ _ _ _ _ _ _ _ _ _ _ _ _ _ _ _ _ _ _ _ _ _ _ => x
def Ora.wrap : Ora → IntKind → Int → Int
  | .mk _ _ _ x _ _ _ _ _ _ _ _ _ _ _ _ _ _ _ _ _ _ _ _ _ _ _ _ => x
def Ora.plus : Ora → Int → Int → Int
  | .mk _ _ _ _ x _ _ _ _ _ _ _ _ _ _ _ _ _ _ _ _ _ _ _ _ _ _ _ => x
def Ora.minus : Ora → Int → Int → Int
  | .mk _ _ _ _ _ x _ _ _ _ _ _ _ _ _ _ _ _ _ _ _ _ _ _ _ _ _ _ => x
def Ora.cmp : Ora → BinOp → Int → Int → Bool
  | .mk _ _ _ _ _ _ x _ _ _ _ _ _ _ _ _ _ _ _ _ _ _ _ _ _ _ _ _ => x
def Ora.isZero : Ora → Int → Bool
  | .mk _ _ _ _ _ _ _ x _ _ _ _ _ _ _ _ _ _ _ _ _ _ _ _ _ _ _ _ => x
def Ora.sCmp : Ora → BinOp → ByteArray → ByteArray → Bool
  | .mk _ _ _ _ _ _ _ _ x _ _ _ _ _ _ _ _ _ _ _ _ _ _ _ _ _ _ _ => x
def Ora.sAdd : Ora → ByteArray → ByteArray → ByteArray
  | .mk _ _ _ _ _ _ _ _ _ x _ _ _ _ _ _ _ _ _ _ _ _ _ _ _ _ _ _ => x
def Ora.sFits : Ora → ByteArray → ByteArray → Bool
  | .mk _ _ _ _ _ _ _ _ _ _ x _ _ _ _ _ _ _ _ _ _ _ _ _ _ _ _ _ => x
def Ora.sLen : Ora → ByteArray → Int
  | .mk _ _ _ _ _ _ _ _ _ _ _ x _ _ _ _ _ _ _ _ _ _ _ _ _ _ _ _ => x
def Ora.sIdx : Ora → ByteArray → Int → Option Int
  | .mk _ _ _ _ _ _ _ _ _ _ _ _ x _ _ _ _ _ _ _ _ _ _ _ _ _ _ _ => x
def Ora.sSub : Ora → ByteArray → Int → Int → Option ByteArray
  | .mk _ _ _ _ _ _ _ _ _ _ _ _ _ x _ _ _ _ _ _ _ _ _ _ _ _ _ _ => x
def Ora.bytesOf : Ora → ByteArray → List D
  | .mk _ _ _ _ _ _ _ _ _ _ _ _ _ _ x _ _ _ _ _ _ _ _ _ _ _ _ _ => x
def Ora.ofBytes : Ora → List D → Option ByteArray
  | .mk _ _ _ _ _ _ _ _ _ _ _ _ _ _ _ x _ _ _ _ _ _ _ _ _ _ _ _ => x
def Ora.len : Ora → List D → Int
  | .mk _ _ _ _ _ _ _ _ _ _ _ _ _ _ _ _ x _ _ _ _ _ _ _ _ _ _ _ => x
def Ora.elt : Ora → List D → Int → Option D
  | .mk _ _ _ _ _ _ _ _ _ _ _ _ _ _ _ _ _ x _ _ _ _ _ _ _ _ _ _ => x
def Ora.sub : Ora → List D → Int → Int → Option (List D)
  | .mk _ _ _ _ _ _ _ _ _ _ _ _ _ _ _ _ _ _ x _ _ _ _ _ _ _ _ _ => x
def Ora.app : Ora → List D → List D → List D
  | .mk _ _ _ _ _ _ _ _ _ _ _ _ _ _ _ _ _ _ _ x _ _ _ _ _ _ _ _ => x
def Ora.set : Ora → List D → Int → D → List D
  | .mk _ _ _ _ _ _ _ _ _ _ _ _ _ _ _ _ _ _ _ _ x _ _ _ _ _ _ _ => x
def Ora.rep : Ora → Int → D → List D
  | .mk _ _ _ _ _ _ _ _ _ _ _ _ _ _ _ _ _ _ _ _ _ x _ _ _ _ _ _ => x
def Ora.fits : Ora → Nat → Nat → List D → Bool
  | .mk _ _ _ _ _ _ _ _ _ _ _ _ _ _ _ _ _ _ _ _ _ _ x _ _ _ _ _ => x
def Ora.fitsN : Ora → Nat → Int → Bool
  | .mk _ _ _ _ _ _ _ _ _ _ _ _ _ _ _ _ _ _ _ _ _ _ _ x _ _ _ _ => x
def Ora.over : Ora → List D → List D → List D
  | .mk _ _ _ _ _ _ _ _ _ _ _ _ _ _ _ _ _ _ _ _ _ _ _ _ x _ _ _ => x
def Ora.froze : Ora → List D → List D
  | .mk _ _ _ _ _ _ _ _ _ _ _ _ _ _ _ _ _ _ _ _ _ _ _ _ _ x _ _ => x
def Ora.closed : Ora → List D → Bool
  | .mk _ _ _ _ _ _ _ _ _ _ _ _ _ _ _ _ _ _ _ _ _ _ _ _ _ _ x _ => x
def Ora.flat : Ora → List D → Bool
  | .mk _ _ _ _ _ _ _ _ _ _ _ _ _ _ _ _ _ _ _ _ _ _ _ _ _ _ _ x => x

mutual
def AV.refs : AV → List Id
  | .agg cs => AV.refsL cs
  | .tup cs => AV.refsL cs
  | .ptr r _ => [r]
  | .prow r _ _ _ => [r]
  | .arr r _ _ _ => [r]
  | .fn _ cs => AV.refsL cs
  | _ => []
def AV.refsL : List AV → List Id
  | [] => []
  | a :: l => a.refs ++ AV.refsL l
end

mutual
def AV.map (f : Id → Id) : AV → AV
  | .agg cs => .agg (AV.mapL f cs)
  | .tup cs => .tup (AV.mapL f cs)
  | .ptr r o => .ptr (f r) o
  | .prow r s i o => .prow (f r) s i o
  | .arr r s g u => .arr (f r) s g u
  | .fn g cs => .fn g (AV.mapL f cs)
  | x => x
def AV.mapL (f : Id → Id) : List AV → List AV
  | [] => []
  | a :: l => a.map f :: AV.mapL f l
end

def Obj.refs : Obj → List Id
  | .box cs => AV.refsL cs
  | .hrows _ _ _ _ q _ => [q]
  | _ => []
def Obj.map (f : Id → Id) : Obj → Obj
  | .box cs => .box (AV.mapL f cs)
  | .hrows s xs i off q e => .hrows s xs i off (f q) e
  | x => x
/-- The elements of an object that a slice may be of. -/
def Obj.rw : Obj → Option (Elt × List D)
  | .box _ => none
  | .rows s xs => some (s, xs)
  | .orows s xs => some (s, xs)
  | .hrows s xs _ _ _ _ => some (s, xs)
  | .gone s xs => some (s, xs)
/-- The elements that may be read. -/
def Obj.rd : Obj → Option (Elt × List D)
  | .rows s xs => some (s, xs)
  | .orows s xs => some (s, xs)
  | .hrows s xs _ _ _ _ => some (s, xs)
  | _ => none
/-- An object that may own more than its block. -/
def Obj.deep : Obj → Bool
  | .orows _ _ => true
  | .hrows _ _ _ _ _ _ => true
  | _ => false

def Sto.get (s : Sto) (r : Id) : Option Obj :=
  match s[r.1]? with
  | some l => match l[r.2]? with
    | some o => o
    | none => none
  | none => none
def Sto.put (s : Sto) (r : Id) (o : Option Obj) : Sto :=
  match s[r.1]? with
  | some l => s.set r.1 (l.set r.2 o)
  | none => s
/-- A slot that is empty is filled. -/
def Sto.lay (s : Sto) (t : Nat) (l : List (Option Obj)) : Option Sto :=
  match s[t]? with
  | some old => if old.all (·.isNone) then some (s.set t l) else none
  | none => none

mutual
/-- What names one of these is not known any more. -/
def AV.forget (p : Id → Bool) : AV → AV
  | .agg cs => .agg (AV.forgetL p cs)
  | .tup cs => .tup (AV.forgetL p cs)
  | .ptr r o => if p r then .undef else .ptr r o
  | .prow r s i o => if p r then .undef else .prow r s i o
  | .arr r s g u => if p r then .undef else .arr r s g u
  | .fn g cs => .fn g (AV.forgetL p cs)
  | x => x
def AV.forgetL (p : Id → Bool) : List AV → List AV
  | [] => []
  | a :: l => a.forget p :: AV.forgetL p l
end
def Obj.forget (p : Id → Bool) : Obj → Obj
  | .box cs => .box (AV.forgetL p cs)
  | .hrows s xs i off q e => if p q then .gone s xs else .hrows s xs i off q e
  | x => x
def Sto.forget (p : Id → Bool) (s : Sto) : Sto := s.map fun l => l.map fun o => o.map (·.forget p)
/-- An object is gone. -/
def St.kill (s : St) (r : Id) : St := ⟨AV.forgetL (· == r) s.env, (s.sto.put r none).forget (· == r)⟩
def St.lay (s : St) (t : Nat) (l : List (Option Obj)) : Option St :=
  match s.sto.lay t l with
  | some sto => some ⟨s.env, sto⟩
  | none => none

def D.many : D → Bool
  | .agg _ => true
  | _ => false
def D.cells : D → List D
  | .agg cs => cs
  | x => [x]
def D.ofCells (agg : Bool) (cs : List D) : Option D :=
  match agg, cs with
  | true, cs => some (.agg cs)
  | false, [x] => if x.many then none else some x
  | false, _ => none
def AV.ofCells (agg : Bool) (cs : List AV) : Option AV :=
  match agg, cs with
  | true, cs => some (.agg cs)
  | false, [x] => some x
  | false, _ => none
def AV.cells : AV → List AV
  | .agg cs => cs
  | x => [x]

def cut {α : Type} (l : List α) (off n : Nat) : Option (List α) :=
  if off + n ≤ l.length then some ((l.drop off).take n) else none
def lay {α : Type} (l : List α) (off : Nat) (v : List α) : Option (List α) :=
  if off + v.length ≤ l.length then some (l.take off ++ v ++ l.drop (off + v.length)) else none

section
variable (o : Ora)

/-- The elements of a slice. -/
def content (s : Sto) : AV → Option (List D)
  | .d (.lst xs) => some xs
  | .emp => some []
  | .arr r _ g _ => match s.get r with
    | some (.rows _ xs) => match g with
      | none => some xs
      | some (a, n) => o.sub xs a n
    | _ => none
  | _ => none

/-- A part of a list, or all of it. -/
def subR (g : Option (Int × Int)) (xs : List D) : Option (List D) := match g with
  | none => some xs
  | some (a, n) => o.sub xs a n
/-- The same, of what owns, too. -/
def contentR (s : Sto) : AV → Option (List D)
  | .arr r sz g u => match s.get r with
    | some (.orows _ xs) => subR o g xs
    | some (.hrows _ xs _ _ _ _) => subR o g xs
    | _ => content o s (.arr r sz g u)
  | x => content o s x

mutual
/-- What is handed on as data that no longer changes. -/
def fz (s : St) : AV → Option (AV × St)
  | .emp => some (.d (.lst []), s)
  | .arr r sz g u => match s.sto.get r with
    | some (.orows _ xs) => match g with
      | none => some (.d (.lst (o.froze xs)), s.kill r)
      | some _ => none
    | _ => match content o s.sto (.arr r sz g u) with
      | some xs => some (.d (.lst xs), s.kill r)
      | none => none
  | .agg cs => match fzL s cs with
    | some (ds, s) => some (.agg ds, s)
    | none => none
  | .tup cs => match fzL s cs with
    | some (ds, s) => some (.tup ds, s)
    | none => none
  | x => some (x, s)
def fzL (s : St) : List AV → Option (List AV × St)
  | [] => some ([], s)
  | a :: l => match fz s a with
    | some (x, s) => match fzL s l with
      | some (xs, s) => some (x :: xs, s)
      | none => none
    | none => none
end

mutual
/-- The same for the time of one call: nothing is gone. -/
def snap (s : Sto) : AV → Option AV
  | .emp => some (.d (.lst []))
  | .arr r sz g u => match s.get r with
    | some (.orows _ xs) => match g with
      | none => some (.d (.lst (o.froze xs)))
      | some _ => none
    | _ => match content o s (.arr r sz g u) with
      | some xs => some (.d (.lst xs))
      | none => none
  | .agg cs => match snapL s cs with
    | some ds => some (.agg ds)
    | none => none
  | x => some x
def snapL (s : Sto) : List AV → Option (List AV)
  | [] => some []
  | a :: l => match snap s a with
    | some x => match snapL s l with
      | some xs => some (x :: xs)
      | none => none
    | none => none
end

/-- A cell that owns nothing, and is one cell. -/
def plainC : D → Bool
  | .own _ _ => false
  | .agg _ => false
  | _ => true
/-- What is handed over to be owned. -/
def ownA (s : St) : AV → Option (D × St)
  | .d x => match plainC x with
    | true => some (x, s)
    | false => none
  | .emp => some (.lst [], s)
  | .arr r sz none _ => match sz.2 with
    | 0 => none
    | _ + 1 => match s.sto.get r with
      | some (.orows _ ys) => some (.own sz ys, s.kill r)
      | some (.rows _ ys) => match o.flat ys with
        | true => some (.own sz ys, s.kill r)
        | false => none
      | _ => none
  | _ => none
def ownL (s : St) : List AV → Option (List D × St)
  | [] => some ([], s)
  | a :: l => match ownA o s a with
    | some (x, s) => match ownL s l with
      | some (xs, s) => some (x :: xs, s)
      | none => none
    | none => none

/-- A row that is handed over to be owned, or none yet. -/
def ownR (s : St) (sz : Elt) : AV → Option (List D × St)
  | .emp => some ([], s)
  | .arr r sz' g u => match ownA o s (.arr r sz' g u) with
    | some (.own sz1 xs, s) => if sz1 = sz then some (xs, s) else none
    | _ => none
  | _ => none

def scalar : AV → Bool
  | .d (.int _ _) => true
  | .d (.bool _) => true
  | .d (.str _) => true
  | .tup [] => true
  | .bare => true
  | _ => false

def dL : List AV → Option (List D)
  | [] => some []
  | .d x :: l => match dL l with
    | some xs => some (x :: xs)
    | none => none
  | _ => none
/-- A zero value's cells as data. -/
def dZ : List AV → Option (List D)
  | [] => some []
  | .d x :: l => match dZ l with
    | some xs => some (x :: xs)
    | none => none
  | .emp :: l => match dZ l with
    | some xs => some (.lst [] :: xs)
    | none => none
  | _ => none
def toD : AV → Option D
  | .d x => some x
  | .agg cs => match dL cs with
    | some ds => some (.agg ds)
    | none => none
  | _ => none

def ev (env : List AV) : VX → Option AV
  | .tmp t => env[t]?
  | .const a => some a
def evL (env : List AV) : List VX → Option (List AV)
  | [] => some []
  | x :: l => match ev env x with
    | some a => match evL env l with
      | some as => some (a :: as)
      | none => none
    | none => none
def evO (env : List AV) : Option VX → Option (Option AV)
  | none => some none
  | some x => match ev env x with
    | some a => some (some a)
    | none => none

def reach (s : Sto) : Nat → List Id → List Id → Option (List Id)
  | _, [], acc => some acc
  | 0, _ :: _, _ => none
  | n + 1, r :: todo, acc =>
    if acc.contains r then reach s n todo acc
    else match s.get r with
      | some ob => reach s n (ob.refs ++ todo) (acc ++ [r])
      | none => none

def idx (ids : List Id) (r : Id) : Nat := ids.findIdx (· == r)

def wrBack (s : Sto) (f : Id → Id) : List Id → List (Option Obj) → Option Sto
  | [], [] => some s
  | r :: ids, ob :: obs => wrBack (s.put r (ob.map (·.map f))) f ids obs
  | _, _ => none

/-- What a call is handed. -/
def handed (m : CMode) (as : List AV) (s : St) : Option (List AV × St) :=
  match m with
  | .ref => some (as, s)
  | .frz => fzL o s as
  | _ => match snapL o s.sto as with
    | some as => some (as, s)
    | none => none

def allSome : List (Option Obj) → Bool
  | [] => true
  | some _ :: l => allSome l
  | none :: _ => false
/-- The names of what a call made gone. -/
def St.buried (ids : List Id) (pars : List (Option Obj)) (s : St) : St :=
  match allSome pars with
  | true => s
  | false => ⟨AV.forgetL (fun r => ids.contains r && (s.sto.get r).isNone) s.env, s.sto.forget fun r => ids.contains r && (s.sto.get r).isNone⟩

mutual
/-- Nothing that it names lies where somebody else may hold it. -/
def closedA : AV → Bool
  | .d (.int _ _) => true
  | .d (.bool _) => true
  | .d (.str _) => true
  | .emp => true
  | .arr _ _ _ _ => true
  | .agg cs => closedAL cs
  | .tup cs => closedAL cs
  | _ => false
def closedAL : List AV → Bool
  | [] => true
  | a :: l => match closedA a with
    | true => closedAL l
    | false => false
end
def closedO : List (Option Obj) → Bool
  | [] => true
  | some (.rows _ xs) :: l => match o.closed xs with
    | true => closedO l
    | false => false
  | some (.orows _ xs) :: l => match o.closed xs with
    | true => closedO l
    | false => false
  | _ => false
/-- A call: what its arguments reach is handed over, and comes back. -/
def doCall (f : FuncId) (m : CMode) (raw : Bool) (as : List AV) (dst : Option Nat) (s : St) : Option (AV × St) :=
  match m with
  | .bor => match snapL o s.sto as with
    | none => none
    | some as =>
      match (AV.refsL as).isEmpty with
      | false => none
      | true => match o.call f as [] with
        | none => none
        | some c => match scalar c.ret with
          | true => some (c.ret, s)
          | false => match raw, dst, c.pars, closedA c.ret, closedO o c.extra with
            | true, some t, [], true, true => match s.lay t (c.extra.map fun ob => ob.map (·.map fun r => (t, r.2))) with
              | some s => some (c.ret.map fun r => (t, r.2), s)
              | none => none
            | _, _, _, _, _ => none
  | m =>
    match m != .pure || (AV.refsL as).isEmpty with
    | false => none
    | true =>
    match handed o m as s with
    | none => none
    | some (as, s) =>
      match reach s.sto 60 (AV.refsL as) [] with
      | none => none
      | some ids =>
        match o.call f (AV.mapL (fun r => (1, idx ids r)) as) (ids.map fun r => (s.sto.get r).map (·.map fun r => (1, idx ids r))) with
        | none => none
        | some c =>
          let back : Id → Id := fun r => if r.1 = 1 then ids.getD r.2 (0, 0) else (dst.getD 0, r.2)
          match wrBack s.sto back ids c.pars with
          | none => none
          | some sto =>
            match St.buried ids c.pars ⟨s.env, sto⟩ with
            | s => match c.extra with
              | [] => some (c.ret.map back, s)
              | e :: ex => match raw, dst with
                | true, some t => match s.lay t ((e :: ex).map fun ob => ob.map (·.map back)) with
                  | some s => some (c.ret.map back, s)
                  | none => none
                | _, _ => none

def bin (op : BinOp) : AV → AV → Option AV
  | .d (.int k a), .d (.int k' b) =>
    match op with
    | .add | .sub | .mul | .and | .or | .xor => if k = k' then some (.d (.int k (o.ar op k a b))) else none
    | .quo | .rem => if k = k' then (match o.isZero b with | false => some (.d (.int k (o.ar op k a b))) | true => none) else none
    | .shl | .shr => match o.cmp .lss b 0 with | false => some (.d (.int k (o.ar op k a b))) | true => none
    | .andNot => none
    | _ => if k = k' then some (.d (.bool (o.cmp op a b))) else none
  | .d (.str a), .d (.str b) =>
    match op with
    | .add => match o.sFits a b with | true => some (.d (.str (o.sAdd a b))) | false => none
    | .eql | .neq | .lss | .leq | .gtr | .geq => some (.d (.bool (o.sCmp op a b)))
    | _ => none
  | .d (.bool a), .d (.bool b) =>
    match op with
    | .eql => some (.d (.bool (a == b)))
    | .neq => some (.d (.bool (a != b)))
    | _ => none
  | _, _ => none

def Sto.rd (s : Sto) (r : Id) : Option (Elt × List D) := match s.get r with
  | some ob => ob.rd
  | none => none
def loadAt (s : Sto) (agg : Bool) (n : Nat) : AV → Option AV
  | .ptr r off => match s.get r with
    | some (.box cs) => match cut cs off n with
      | some cs => AV.ofCells agg cs
      | none => none
    | _ => none
  | .prow r sz i off => match s.rd r with
    | some (sz', xs) => if sz = sz' then match o.elt xs i with
        | some x => if x.cells.length = sz.2 then match cut x.cells off n with
            | some cs => AV.ofCells agg (cs.map .d)
            | none => none
          else none
        | none => none
      else none
    | _ => none
  | .sp cs off => match cut cs off n with
    | some cs => AV.ofCells agg (cs.map .d)
    | none => none
  | _ => none

/-- What one cell may hold, and is known. -/
def AV.one : AV → Bool
  | .undef | .bare | .agg _ | .tup _ => false
  | _ => true


def storeAt (s : St) (n : Nat) (p x : AV) : Option St :=
  let vs := x.cells
  if vs.length ≠ n || !(vs.all AV.one) then none else
  match p with
  | .ptr r off => match s.sto.get r with
    | some (.box cs) => match lay cs off vs with
      | some cs => some ⟨s.env, s.sto.put r (some (.box cs))⟩
      | none => none
    | _ => none
  | .prow r sz i off => match s.sto.get r with
   | some (.orows _ _) => match ownL o s vs with
    | some (ds, s2) => match s2.sto.get r with
      | some (.orows sz' xs) => match o.elt xs i with
        | some (.agg cs) => if sz = sz' ∧ cs.length = sz.2 then match lay cs off ds with
            | some cs' => some ⟨s2.env, s2.sto.put r (some (.orows sz (o.set xs i (.agg cs'))))⟩
            | none => none
          else none
        | _ => none
      | _ => none
    | none => none
   | _ => match fzL o s vs with
    | some (vs, s) => match dL vs with
      | some ds => match s.sto.get r with
        | some (.rows sz' xs) => if sz = sz' then match o.elt xs i with
            | some e => if e.cells.length = sz.2 then match lay e.cells off ds with
                | some cs => match D.ofCells e.many cs with
                  | some e' => some ⟨s.env, s.sto.put r (some (.rows sz (o.set xs i e')))⟩
                  | none => none
                | none => none
              else none
            | none => none
          else none
        | _ => none
      | none => none
    | none => none
  | _ => none

def fillA {α : Type} (cells : List α) : List (Nat × List α) → Option (List α)
  | [] => some cells
  | (off, vs) :: l => match lay cells off vs with
    | some c => fillA c l
    | none => none

def AV.whole : AV → Bool
  | .undef | .bare | .tup _ => false
  | _ => true
def evParts (env : List AV) : List (Nat × Nat × VX) → Option (List (Nat × List AV))
  | [] => some []
  | (off, n, x) :: l => match ev env x with
    | some a => match a.whole, a.cells.length == n with
      | true, true => match evParts env l with
        | some ps => some ((off, a.cells) :: ps)
        | none => none
      | _, _ => none
    | none => none

def evElems (env : List AV) : List (Nat × VX) → Option (List (Nat × AV))
  | [] => some []
  | (i, x) :: l => match ev env x with
    | some a => match evElems env l with
      | some ps => some ((i, a) :: ps)
      | none => none
    | none => none

def toDs : List AV → Option (List D)
  | [] => some []
  | a :: l => match toD a with
    | some x => match toDs l with
      | some xs => some (x :: xs)
      | none => none
    | none => none
/-- The elements of a literal: each laid over the zero one. -/
def fillD (sz : Nat) (xs : List D) : List (Nat × D) → Option (List D)
  | [] => some xs
  | (i, x) :: l => if i < xs.length && x.cells.length == sz then fillD sz (xs.set i x) l else none

def asInt : AV → Option Int
  | .d (.int _ n) => some n
  | _ => none
def asIntO : Option AV → Option (Option Int)
  | none => some none
  | some a => match asInt a with
    | some n => some (some n)
    | none => none

/-- x[lo:hi:mx], within its length. -/
def sliceAt (s : Sto) (sz : Elt) (x : AV) (lo hi mx : Option Int) : Option AV :=
  match mx with
  | some m => match content o s x, lo, hi with
    | some _, none, some h => match o.isZero h, o.isZero m with
      | true, true => some .emp
      | _, _ => none
    | _, _, _ => none
  | none => match x with
    | .emp => match lo, hi with
      | none, none => some .emp
      | _, _ => match o.isZero (lo.getD 0), o.isZero (hi.getD 0) with
        | true, true => some .emp
        | _, _ => none
    | .d (.lst xs) => match (match lo with | none => true | some _ => o.fits sz.2 0 xs) with
      | true => match o.sub xs (lo.getD 0) (o.minus (hi.getD (o.len xs)) (lo.getD 0)) with
        | some ys => some (.d (.lst ys))
        | none => none
      | false => none
    | .arr r sz' g u => match content o s (.arr r sz' g u) with
      | none => none
      | some xs => match lo, hi with
        | none, none => some (.arr r sz' g u)
        | _, _ => if sz = sz' then match o.sub xs (lo.getD 0) (o.minus (hi.getD (o.len xs)) (lo.getD 0)) with
          | some _ => some (.arr r sz (some (match g with | none => lo.getD 0 | some (a, _) => o.plus a (lo.getD 0), o.minus (hi.getD (o.len xs)) (lo.getD 0))) false)
          | none => none
          else none
    | _ => none

def AV.isB : AV → Bool
  | .d (.bool _) => true
  | _ => false
def AV.isS : AV → Bool
  | .d (.str _) => true
  | _ => false
/-- An operation that asks no call and writes nothing that is there. -/
def evalOp (env : List AV) (s : Sto) : VOp → Option (AV × List (Option Obj))
  | .move x => match ev env x with | some a => some (a, []) | none => none
  | .pick c a b => match ev env c, ev env a, ev env b with
    | some (.d (.bool t)), some x, some y => match t with | true => some (x, []) | false => some (y, [])
    | _, _, _ => none
  | .bin isB op x y => match ev env x, ev env y with
    | some a, some b => match a.isB == isB with
      | true => match bin o op a b with | some v => some (v, []) | none => none
      | false => none
    | _, _ => none
  | .eqNil ne x => match ev env x with
    | some .nilp => some (.d (.bool (!ne)), [])
    | some (.ptr _ _) => some (.d (.bool ne), [])
    | some (.prow _ _ _ _) => some (.d (.bool ne), [])
    | some (.sp _ _) => some (.d (.bool ne), [])
    | _ => none
  | .neg x => match ev env x with | some (.d (.int k n)) => some (.d (.int k (o.ar .sub k 0 n)), []) | _ => none
  | .not x => match ev env x with | some (.d (.bool b)) => some (.d (.bool (!b)), []) | _ => none
  | .conv c x => match ev env x with
    | some a => match c, a with
      | .int k, .d (.int _ n) => some (.d (.int k (o.wrap k n)), [])
      | .str, .d (.str t) => some (.d (.str t), [])
      | .bytesToStr, a => match content o s a with
        | some xs => match o.ofBytes xs with | some t => some (.d (.str t), []) | none => none
        | none => none
      | _, _ => none
    | none => none
  | .mkfn f cap => match evL env cap with | some as => some (.fn f as, []) | none => none
  | .fieldAddr off x => match ev env x with
    | some (.ptr r i) => some (.ptr r (i + off), [])
    | some (.prow r sz i n) => some (.prow r sz i (n + off), [])
    | some (.sp cs i) => some (.sp cs (i + off), [])
    | _ => none
  | .field agg off n x => match ev env x with
    | some (.agg cs) => match cut cs off n with
      | some cs => match AV.ofCells agg cs with | some v => some (v, []) | none => none
      | none => none
    | _ => none
  | .indexAddr sz x i => match ev env x, ev env i with
    | some (.d (.lst xs)), some (.d (.int _ n)) => match o.elt xs n with
      | some e => if e.cells.length = sz.2 then some (.sp e.cells 0, []) else none
      | none => none
    | some (.arr r sz' g u), some (.d (.int _ n)) => match contentR o s (.arr r sz' g u) with
      | some xs => match o.elt xs n with
        | some _ => if sz = sz' then some (.prow r sz (match g with | none => n | some (a, _) => o.plus a n) 0, []) else none
        | none => none
      | none => none
    | _, _ => none
  | .index x i => match ev env x, ev env i with
    | some (.d (.str t)), some (.d (.int _ n)) => match o.sIdx t n with | some b => some (.d (.int .u8 b), []) | none => none
    | _, _ => none
  | .indexArr agg len n x i => match ev env x, ev env i with
    | some (.agg cs), some (.d (.int _ k)) => if 0 ≤ k ∧ k < len then match cut cs (k.toNat * n) n with
        | some cs => match AV.ofCells agg cs with | some v => some (v, []) | none => none
        | none => none
      else none
    | _, _ => none
  | .extract x i => match ev env x with
    | some (.tup vs) => match vs[i]? with | some v => some (v, []) | none => none
    | _ => none
  | .len isS x => match ev env x with
    | some a => match a.isS == isS with
      | false => none
      | true => match a with
        | .d (.str t) => some (.d (.int .i64 (o.sLen t)), [])
        | .d (.lst xs) => some (.d (.int .i64 (o.len xs)), [])
        | .emp => some (.d (.int .i64 0), [])
        | .arr r sz g u => match g with
          | some (_, n) => some (.d (.int .i64 n), [])
          | none => match contentR o s (.arr r sz g u) with | some xs => some (.d (.int .i64 (o.len xs)), []) | none => none
        | _ => none
    | none => none
  | .slice isStr sz x lo hi mx => match ev env x, evO env lo, evO env hi, evO env mx with
    | some x, some lo, some hi, some mx => match asIntO lo, asIntO hi, asIntO mx with
      | some lo, some hi, some mx => match isStr, x with
        | true, .d (.str t) => match mx with
          | none => match o.sSub t (lo.getD 0) (hi.getD (o.sLen t)) with | some u => some (.d (.str u), []) | none => none
          | some _ => none
        | false, x => match sliceAt o s sz x lo hi mx with | some v => some (v, []) | none => none
        | _, _ => none
      | _, _, _ => none
    | _, _, _, _ => none
  | .load agg n a => match ev env a with
    | some p => match loadAt o s agg n p with | some v => some (v, []) | none => none
    | none => none
  | .alloc cs => some (.ptr (0, 0) 0, [some (.box cs)])
  | .box x => match ev env x with
    | some a => match a with
      | .tup _ | .undef | .bare => none
      | a => some (.ptr (0, 0) 0, [some (.box a.cells)])
    | none => none
  | .build zero parts => match evParts env parts with
    | some ps => match fillA zero ps with | some cs => some (.agg cs, []) | none => none
    | none => none
  | .makeSlice sz bytes agg zero l c => match ev env l, ev env c with
    | some (.d (.int _ l)), some (.d (.int _ c)) =>
      if zero.length = sz.2 then
        match dZ zero with
        | some ds => match D.ofCells agg ds with
          | some z => match o.cmp .eql l c, o.fitsN bytes c with
            | true, true => some (.arr (0, 0) sz none true, [some (.rows sz (o.rep c z))])
            | _, _ => none
          | none => none
        | none => none
      else none
    | _, _ => none
  | _ => none

def atHead : Option (Int × Int) → Bool
  | none => true
  | some (a, _) => o.isZero a
/-- All operations: the value, and the state behind it. -/
def doOp (s : St) (dst : Option Nat) : VOp → Option (AV × St)
  | .store n a x => match ev s.env a, ev s.env x with
    | some p, some v => match storeAt o s n p v with | some s => some (.bare, s) | none => none
    | _, _ => none
  | .buildO sz x => match ev s.env x, dst with
    | some (.agg cs), some t => match ownL o s cs with
      | some (ds, s) => if ds.length = sz.2 then match s.lay t [some (.orows sz [.agg ds])] with
          | some s => some (.arr (t, 0) sz none true, s)
          | none => none
        else none
      | none => none
    | _, _ => none
  | .appendO sz bytes x y => match ev s.env x, ev s.env y, dst with
    | some a, some b, some t => match ownR o s sz a with
      | some (xs, s) => match ownA o s b with
        | some (.own sz2 (y :: ys), s) => if sz2 = sz then match o.fits sz.2 bytes (o.app xs (y :: ys)) with
            | true => match s.lay t [some (.orows sz (o.app xs (y :: ys)))] with
              | some s => some (.arr (t, 0) sz none false, s)
              | none => none
            | false => none
          else none
        | _ => none
      | none => none
    | _, _, _ => none
  | .lend x => match ev s.env x with
    | some (.prow r sz i off) => match s.sto.get r with
      | some (.orows sz' xs) => match o.elt xs i with
        | some (.agg cs) => match cut cs off 1 with
          | some [.own esz ys] => match esz.2, dst with
            | _ + 1, some t => if sz = sz' ∧ cs.length = sz.2 then match (⟨s.env, s.sto.put r (some (.hrows sz xs i off (t, 0) esz))⟩ : St).lay t [some (.orows esz ys)] with
                | some s => some (.arr (t, 0) esz none false, s)
                | none => none
              else none
            | _, _ => none
          | _ => match loadAt o s.sto false 1 (.prow r sz i off) with | some v => some (v, s) | none => none
        | _ => none
      | _ => none
    | _ => none
  | .storeP n a x => match ev s.env a, ev s.env x with
    | some (.ptr r off), some v => match storeAt o s n (.ptr r off) v with | some s => some (.bare, s) | none => none
    | _, _ => none
  | .call f m raw args => match evL s.env args with
    | some as => doCall o f m raw as dst s
    | none => none
  | .callv f m raw args => match ev s.env f, evL s.env args with
    | some (.fn g cap), some as => doCall o g m raw (as ++ cap) dst s
    | _, _ => none
  | .append sz bytes x y => match ev s.env x, ev s.env y, dst with
    | some a, some b, some t => match content o s.sto b with
      | none => none
      | some ys => match a with
        | .emp => match o.fits sz.2 bytes ys with
            | true => match s.lay t [some (.rows sz ys)] with
              | some s => some (.arr (t, 0) sz none false, s)
              | none => none
            | false => none
        | .arr r sz' g u => match content o s.sto (.arr r sz' g u) with
          | some xs => if sz = sz' && atHead o g then
              match o.fits sz.2 bytes (o.app xs ys) with
              | true => match (s.kill r).lay t [some (.rows sz (o.app xs ys))] with
                | some s => some (.arr (t, 0) sz none false, s)
                | none => none
              | false => none
            else none
          | none => none
        | _ => none
    | _, _, _ => none
  | .copy sz x y => match ev s.env x, ev s.env y with
    | some (.arr r sz' none _), some b => match content o s.sto b, s.sto.get r with
      | some ys, some (.rows _ xs) => if sz = sz' then
          some (.undef, ⟨s.env, s.sto.put r (some (.rows sz (o.over xs ys)))⟩)
        else none
      | _, _ => none
    | _, _ => none
  | .buildSlice sz agg zero len parts => match evElems s.env parts, dst with
    | some ps, some t =>
      if zero.length = sz.2 then
        match dZ zero with
        | some ds => match D.ofCells agg ds with
          | some z => match fzL o s (ps.map (·.2)) with
            | some (as, s) => match toDs as with
              | some xs => match fillD sz.2 (List.replicate len z) ((ps.map (·.1)).zip xs) with
                | some [] => some (.emp, s)
                | some (x :: xs) => match s.lay t [some (.rows sz (x :: xs))] with
                  | some s => some (.arr (t, 0) sz none true, s)
                  | none => none
                | none => none
              | none => none
            | none => none
          | none => none
        | none => none
      else none
    | _, _ => none
  | .buildRow sz agg zero len parts => match evElems s.env parts, dst with
    | some ps, some t =>
      if zero.length = sz.2 then
        match dZ zero with
        | some ds => match D.ofCells agg ds with
          | some z => match toDs (ps.map (·.2)) with
            | some xs => match fillD sz.2 (List.replicate len z) ((ps.map (·.1)).zip xs) with
              | some [] => some (.emp, s)
              | some (x :: xs) => match s.lay t [some (.rows sz (x :: xs))] with
                | some s => some (.arr (t, 0) sz none true, s)
                | none => none
              | none => none
            | none => none
          | none => none
        | none => none
      else none
    | _, _ => none
  | op => match evalOp o s.env s.sto op with
    | some (v, []) => some (v, s)
    | some (v, e :: new) => match dst with
      | some t => match s.lay t (e :: new) with
        | some s => some (v.map fun r => if r = (0, 0) then (t, 0) else r, s)
        | none => none
      | none => none
    | none => none

def putD (env : List AV) (dst : Option Nat) (v : AV) : List AV :=
  match dst with
  | some t => env.set t v
  | none => env

def wanted (env : List AV) : Option (Nat × Bool) → Option Bool
  | none => some true
  | some (t, w) => match env[t]? with
    | some (.d (.bool b)) => some (match w with | true => b | false => !b)
    | some .bare => some false
    | _ => none

def execOps : List VOper → St → Option St
  | [], s => some s
  | x :: l, s => match wanted s.env x.guard with
    | some true => match doOp o s x.dst x.op with
      | some (v, s) => execOps l ⟨putD s.env x.dst v, s.sto⟩
      | none => none
    | some false => execOps l ⟨putD s.env x.dst .bare, s.sto⟩
    | none => none

def maskE (live : List Nat) : Nat → List AV → List AV
  | _, [] => []
  | n, a :: l => (if live.contains n then a else .undef) :: maskE live (n + 1) l
def maskS (live : List Nat) : Nat → Sto → Sto
  | _, [] => []
  | n, a :: l => (if live.contains n then a else []) :: maskS live (n + 1) l
/-- What is not live is forgotten. -/
def mask (liveE liveS : List Nat) (s : St) : St :=
  ⟨AV.forgetL (fun r => !liveS.contains r.1) (maskE liveE 0 s.env), (maskS liveS 0 s.sto).forget fun r => !liveS.contains r.1⟩
/-- Ahead of a loop: an empty slice (in a temporary, or in a cell of a box) is taken as a row of its own, yet without memory; a row that owns nothing is taken as one that may own. -/
def rowOf (own : Bool) (sz : Elt) (xs : List D) : Obj := match own with
  | true => .orows sz xs
  | false => .rows sz xs
def promote : List (Nat × Option Nat × Nat × Elt × Bool) → St → Option St
  | [], s => some s
  | (t, none, slot, sz, own) :: l, s => match s.env[t]? with
    | some .emp => match s.lay slot [some (rowOf own sz [])] with
      | some s => promote l ⟨s.env.set t (.arr (slot, 0) sz none false), s.sto⟩
      | none => none
    | some (.arr r _ _ _) => match own with
      | true => match s.sto.get r with
        | some (.rows sz' xs) => match o.flat xs with
          | true => promote l ⟨s.env, s.sto.put r (some (.orows sz' xs))⟩
          | false => none
        | _ => promote l s
      | false => promote l s
    | _ => promote l s
  | (t, some c, slot, sz, own) :: l, s => match s.env[t]? with
    | some (.ptr r b) => match s.sto.get r with
      | some (.box cs) => match cs[b + c]? with
        | some .emp => match s.lay slot [some (rowOf own sz [])] with
          | some s => promote l ⟨s.env, s.sto.put r (some (.box (cs.set (b + c) (.arr (slot, 0) sz none false))))⟩
          | none => none
        | some (.arr q _ _ _) => match own with
          | true => match s.sto.get q with
            | some (.rows sz' xs) => match o.flat xs with
              | true => promote l ⟨s.env, s.sto.put q (some (.orows sz' xs))⟩
              | false => none
            | _ => promote l s
          | false => promote l s
        | _ => promote l s
      | _ => none
    | _ => none

/-- At the end of a region: what was lent is put back. -/
def unlend (x : VX) (s : St) : Option St := match ev s.env x with
  | some (.prow r _ _ _) => match s.sto.get r with
    | some (.hrows sz xs i off q esz) => match s.sto.get q, o.elt xs i with
      | some (.orows esz' ys), some (.agg cs) => if esz = esz' then match lay cs off [.own esz ys] with
          | some cs' => some ((⟨s.env, s.sto.put r (some (.orows sz (o.set xs i (.agg cs'))))⟩ : St).kill q)
          | none => none
        else none
      | _, _ => none
    | _ => some s
  | _ => none

def exec : VC → St → Option (Out × St)
  | .skip, s => some (.norm, s)
  | .reg ops, s => match execOps o ops s with
    | some s => some (.norm, s)
    | none => none
  | .regL ops x, s => match execOps o ops s with
    | some s => match unlend o x s with
      | some s => some (.norm, s)
      | none => none
    | none => none
  | .clone x y c b m t dst sz bytes _ _, s => match s.env[x]? with
    | some (.d (.lst xs)) => match o.fits sz.2 bytes xs with
      | true => match s.lay t [some (.rows sz xs)] with
        | some s => if y < s.env.length ∧ c < s.env.length ∧ b < s.env.length ∧ m < s.env.length ∧ t < s.env.length ∧ dst < s.env.length then
            some (.ret, ⟨((((((s.env.set y .undef).set c .undef).set b .undef).set m .undef).set t .undef).set dst (.arr (t, 0) sz none false)), s.sto⟩)
          else none
        | none => none
      | false => none
    | _ => none
  | .seq a b, s => match exec a s with
    | some (.norm, s) => exec b s
    | r => r
  | .cond c a b, s => match ev s.env c with
    | some (.d (.bool t)) => match t with
      | true => exec a s
      | false => exec b s
    | _ => none
  | .block id c, s => match exec c s with
    | some (.exit k, s) => if k = id then some (.norm, s) else some (.exit k, s)
    | r => r
  | .loop prom le ls key, s => match promote o prom s with
    | some s => o.loop key (mask le ls s)
    | none => none
  | .exit id, s => some (.exit id, s)
  | .ret, s => some (.ret, s)

structure VL where
  liveE : List Nat
  liveS : List Nat
  outE : List Nat
  outS : List Nat
  body : VC

/-- One round of a loop. What it leaves with is what the rest needs. -/
def loopF (T : Nat → Option VL) (key : Nat) (s : St) : Option (Out × St) :=
  match T key with
  | none => none
  | some l => match exec o l.body s with
    | some (.norm, s) => o.loop key (mask l.liveE l.liveS s)
    | some (out, s) => some (out, mask l.outE l.outS s)
    | none => none

structure VF where
  ntmps : Nat
  nargs : Nat
  results : List (Sum Nat (Nat × Bool × Nat))
  body : VC

def getRes (s : St) : List (Sum Nat (Nat × Bool × Nat)) → Option (List AV)
  | [] => some []
  | .inl t :: l => match s.env[t]?, getRes s l with
    | some a, some as => some (a :: as)
    | _, _ => none
  | .inr (t, agg, n) :: l => match s.env[t]? with
    | some p => match loadAt o s.sto agg n p, getRes s l with
      | some a, some as => some (a :: as)
      | _, _ => none
    | none => none

/-- What is given back: as it is, or as data. -/
def handBack (raw : Bool) (v : AV) (s : St) : Option (AV × St) := match raw with
  | true => some (v, s)
  | false => fz o s v
/-- One result, or many. -/
def tupA : List AV → AV
  | [x] => x
  | rs => .tup rs
/-- A function. Raw: what it gives may be its own memory, handed over; else it is data. -/
def callF (F : FuncId → Option (VF × Bool)) (f : FuncId) (as : List AV) (cs : List (Option Obj)) : Option CRes :=
  match F f with
  | none => none
  | some (fn, raw) =>
    if as.length ≠ fn.nargs then none else
    let inn : Id → Id := fun r => (fn.ntmps + r.2, 0)
    let s0 : St := ⟨AV.mapL inn as ++ List.replicate (fn.ntmps - fn.nargs) .bare,
      List.replicate fn.ntmps [] ++ cs.map fun ob => [ob.map (·.map inn)]⟩
    match exec o fn.body s0 with
    | some (.exit _, _) | none => none
    | some (_, s) =>
      match getRes o s fn.results with
      | none => none
      | some rs =>
        match handBack o raw (tupA rs) s with
        | none => none
        | some (v, s) =>
          let sto := s.sto
          let pars := (List.range cs.length).map fun i => sto.get (fn.ntmps + i, 0)
          let roots := v.refs ++ pars.flatMap fun | some ob => ob.refs | none => []
          match reach sto 60 (roots.filter fun r => r.1 < fn.ntmps) [] with
          | none => none
          | some ids =>
            match (ids.all fun r => r.1 < fn.ntmps) && v.refs.all fun r => (sto.get r).isSome with
            | false => none
            | true =>
              let out : Id → Id := fun r => if r.1 < fn.ntmps then (0, idx ids r) else (1, r.1 - fn.ntmps)
              some ⟨v.map out, pars.map fun ob => ob.map (·.map out), (ids.map fun r => (sto.get r).map (·.map out))⟩

end
end Go.Vi
