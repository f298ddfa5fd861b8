import GoSem.Core.Code
import Derived.Calls
import Derived.Below
set_option linter.all false
namespace Go.Vi
theorem ai {α:Type} {l:List α} {i:Nat} {a:α}:l[i]? =some a↔∃h:i<l.length,l[i]=a:=List.getElem?_eq_some_iff
theorem aN {α:Type} {l:List α} {i:Nat} (h:i<l.length):l[i]? =some l[i]:=List.getElem?_eq_getElem h
theorem ah (a b:Bool):((a&&b)=true)=(a=true/\b=true):=Bool.and_eq_true a b
inductive D where
 | int (k:IntKind) (n:Int)
 | bool (b:Bool)
 | str (s:ByteArray)
 | lst (xs:List D)
 | agg (cs:List D)
 | own (sz:Nat×Nat) (xs:List D)
 deriving Inhabited
abbrev Id:=Nat×Nat
abbrev gq:=Nat×Nat
inductive AV where
 | undef
 | bare
 | d (x:D)
 | agg (cs:List AV)
 | tup (vs:List AV)
 | nilp
 | emp
 | ptr (r:Id) (off:Nat)
 | prow (r:Id) (sz:gq) (i:Int) (off:Nat)
 | sp (cs:List D) (off:Nat)
 | arr (r:Id) (sz:gq) (rng:Option (Int×Int)) (full:Bool)
 | fn (f:FuncId) (cap:List AV)
 deriving Inhabited
inductive Obj where
 | box (cs:List AV)
 | rows (sz:gq) (xs:List D)
 | orows (sz:gq) (xs:List D)
 | hrows (sz:gq) (xs:List D) (i:Int) (off:Nat) (q:Id) (esz:gq)
 | gone (sz:gq) (xs:List D)
 deriving Inhabited
abbrev bF:=List (List (Option Obj))
structure St where
 env:List AV
 sto:bF
inductive VX where
 | tmp (t:Nat)
 | const (a:AV)
inductive kH where
 | pure | frz | ref | bor
 deriving DecidableEq
inductive Conv where
 | int (k:IntKind)
 | str
 | bytesToStr
inductive lp where
 | move (x:VX)
 | pick (c a b:VX)
 | alloc (cs:List AV)
 | box (x:VX)
 | build (zero:List AV) (parts:List (Nat×Nat×VX))
 | buildSlice (sz:gq) (agg:Bool) (zero:List AV) (len:Nat) (parts:List (Nat×VX))
 | buildRow (sz:gq) (agg:Bool) (zero:List AV) (len:Nat) (parts:List (Nat×VX))
 | buildO (sz:gq) (x:VX)
 | appendO (sz:gq) (bytes:Nat) (x y:VX)
 | wQ (x:VX)
 | lendF (x:VX)
 | mx (isMax:Bool) (x y:VX)
 | capE (x:VX)
 | appendN (sz:gq) (bytes:Nat) (agg:Bool) (zero:List AV) (x n:VX)
 | bad
 | emptyRow
 | boxZ (x:VX)
 | appendE (sz:gq) (bytes:Nat) (x y:VX)
 | storeR (n:Nat) (a x:VX)
 | buildH (sz:gq) (off:Nat) (x:VX)
 | appendH (sz:gq) (bytes:Nat) (x y:VX)
 | load (agg:Bool) (n:Nat) (a:VX)
 | store (n:Nat) (a x:VX)
 | storeP (n:Nat) (a x:VX)
 | bin (Hj:Bool) (op:BinOp) (x y:VX)
 | eqNil (ne:Bool) (x:VX)
 | neg (x:VX)
 | not (x:VX)
 | conv (c:Conv) (x:VX)
 | mkfn (f:FuncId) (cap:List VX)
 | makeSlice (sz:gq) (bytes:Nat) (agg:Bool) (zero:List AV) (l c:VX)
 | slice (isStr:Bool) (sz:gq) (x:VX) (lo hi mx:Option VX)
 | fieldAddr (off:Nat) (x:VX)
 | field (agg:Bool) (off n:Nat) (x:VX)
 | indexAddr (sz:gq) (x i:VX)
 | index (x i:VX)
 | indexArr (agg:Bool) (len n:Nat) (x i:VX)
 | extract (x:VX) (i:Nat)
 | len (Bl:Bool) (x:VX)
 | append (sz:gq) (bytes:Nat) (x y:VX)
 | copy (sz:gq) (x y:VX)
 | call (f:FuncId) (m:kH) (raw:Bool) (args:List VX)
 | callv (f:VX) (m:kH) (raw:Bool) (args:List VX)
 | callU (x:VX) (f:FuncId) (m:kH) (raw:Bool) (args:List VX)
structure br where
 dst:Option Nat
 guard:Option (Nat×Bool)
 op:lp
inductive VC where
 | skip
 | reg (ops:List br)
 | regL (ops:List br) (x:VX)
 | regP (ops:List br) (ps:List (Nat×Option Nat×Nat))
 | regD (perm:List Nat) (ops:List br) (x:Option VX) (ps:List (Nat×Option Nat×Nat))
 | clone (x y c b m t dst:Nat) (sz:gq) (bytes:Nat) (agg:Bool) (zero:List AV)
 | seq (a b:VC)
 | cond (c:VX) (a b:VC)
 | block (id:Nat) (c:VC)
 | loop (prom:List (Nat×Option Nat×Nat×gq×Bool)) (liveE liveS:List Nat) (key:Nat)
 | exit (id:Nat)
 | ret
inductive Out where
 | norm | ret | exit (id:Nat)
structure bk where
 ret:AV
 pars:List (Option Obj)
 extra:List (Option Obj)
inductive aK where
 | mk (call:FuncId->List AV->List (Option Obj)->Option bk) (loop:Nat->St->Option (Out×St)) (ar:BinOp->IntKind->Int->Int->Int) (wrap:IntKind->Int->Int) (plus:Int->Int->Int) (minus:Int->Int->Int) (cmp:BinOp->Int->Int->Bool) (isZero:Int->Bool) (gW:BinOp->ByteArray->ByteArray->Bool) (yI:ByteArray->ByteArray->ByteArray) (qB:ByteArray->ByteArray->Bool) (sLen:ByteArray->Int) (yJ:ByteArray->Int->Option Int) (I0:ByteArray->Int->Int->Option ByteArray) (bytesOf:ByteArray->List D) (ofBytes:List D->Option ByteArray) (len:List D->Int) (dm:List D->Int->Option D) (sub:List D->Int->Int->Option (List D)) (app:List D->List D->List D) (set:List D->Int->D->List D) (lW:Int->D->List D) (fits:Nat->Nat->List D->Bool) (eP:Nat->Int->Bool) (over:List D->List D->List D) (fk:List D->List D) (closed:List D->Bool) (flat:List D->Bool)
def aK.call:aK->FuncId->List AV->List (Option Obj)->Option bk
 | .mk x _ _ _ _ _ _ _ _ _ _ _ _ _ _ _ _ _ _ _ _ _ _ _ _ _ _ _=>x
def aK.loop:aK->Nat->St->Option (Out×St)
 | .mk _ x _ _ _ _ _ _ _ _ _ _ _ _ _ _ _ _ _ _ _ _ _ _ _ _ _ _=>x
def aK.ar:aK->BinOp->IntKind->Int->Int->Int
 | .mk _ _ x _ _ _ _ _ _ _ _ _ _ _ _ _ _ _ _ _ _ _ _ _ _ _ _ _=>x
def aK.wrap:aK->IntKind->Int->Int
 | .mk _ _ _ x _ _ _ _ _ _ _ _ _ _ _ _ _ _ _ _ _ _ _ _ _ _ _ _=>x
def aK.plus:aK->Int->Int->Int
 | .mk _ _ _ _ x _ _ _ _ _ _ _ _ _ _ _ _ _ _ _ _ _ _ _ _ _ _ _=>x
def aK.minus:aK->Int->Int->Int
 | .mk _ _ _ _ _ x _ _ _ _ _ _ _ _ _ _ _ _ _ _ _ _ _ _ _ _ _ _=>x
def aK.cmp:aK->BinOp->Int->Int->Bool
 | .mk _ _ _ _ _ _ x _ _ _ _ _ _ _ _ _ _ _ _ _ _ _ _ _ _ _ _ _=>x
def aK.isZero:aK->Int->Bool
 | .mk _ _ _ _ _ _ _ x _ _ _ _ _ _ _ _ _ _ _ _ _ _ _ _ _ _ _ _=>x
def aK.gW:aK->BinOp->ByteArray->ByteArray->Bool
 | .mk _ _ _ _ _ _ _ _ x _ _ _ _ _ _ _ _ _ _ _ _ _ _ _ _ _ _ _=>x
def aK.yI:aK->ByteArray->ByteArray->ByteArray
 | .mk _ _ _ _ _ _ _ _ _ x _ _ _ _ _ _ _ _ _ _ _ _ _ _ _ _ _ _=>x
def aK.qB:aK->ByteArray->ByteArray->Bool
 | .mk _ _ _ _ _ _ _ _ _ _ x _ _ _ _ _ _ _ _ _ _ _ _ _ _ _ _ _=>x
def aK.sLen:aK->ByteArray->Int
 | .mk _ _ _ _ _ _ _ _ _ _ _ x _ _ _ _ _ _ _ _ _ _ _ _ _ _ _ _=>x
def aK.yJ:aK->ByteArray->Int->Option Int
 | .mk _ _ _ _ _ _ _ _ _ _ _ _ x _ _ _ _ _ _ _ _ _ _ _ _ _ _ _=>x
def aK.I0:aK->ByteArray->Int->Int->Option ByteArray
 | .mk _ _ _ _ _ _ _ _ _ _ _ _ _ x _ _ _ _ _ _ _ _ _ _ _ _ _ _=>x
def aK.bytesOf:aK->ByteArray->List D
 | .mk _ _ _ _ _ _ _ _ _ _ _ _ _ _ x _ _ _ _ _ _ _ _ _ _ _ _ _=>x
def aK.ofBytes:aK->List D->Option ByteArray
 | .mk _ _ _ _ _ _ _ _ _ _ _ _ _ _ _ x _ _ _ _ _ _ _ _ _ _ _ _=>x
def aK.len:aK->List D->Int
 | .mk _ _ _ _ _ _ _ _ _ _ _ _ _ _ _ _ x _ _ _ _ _ _ _ _ _ _ _=>x
def aK.dm:aK->List D->Int->Option D
 | .mk _ _ _ _ _ _ _ _ _ _ _ _ _ _ _ _ _ x _ _ _ _ _ _ _ _ _ _=>x
def aK.sub:aK->List D->Int->Int->Option (List D)
 | .mk _ _ _ _ _ _ _ _ _ _ _ _ _ _ _ _ _ _ x _ _ _ _ _ _ _ _ _=>x
def aK.app:aK->List D->List D->List D
 | .mk _ _ _ _ _ _ _ _ _ _ _ _ _ _ _ _ _ _ _ x _ _ _ _ _ _ _ _=>x
def aK.set:aK->List D->Int->D->List D
 | .mk _ _ _ _ _ _ _ _ _ _ _ _ _ _ _ _ _ _ _ _ x _ _ _ _ _ _ _=>x
def aK.lW:aK->Int->D->List D
 | .mk _ _ _ _ _ _ _ _ _ _ _ _ _ _ _ _ _ _ _ _ _ x _ _ _ _ _ _=>x
def aK.fits:aK->Nat->Nat->List D->Bool
 | .mk _ _ _ _ _ _ _ _ _ _ _ _ _ _ _ _ _ _ _ _ _ _ x _ _ _ _ _=>x
def aK.eP:aK->Nat->Int->Bool
 | .mk _ _ _ _ _ _ _ _ _ _ _ _ _ _ _ _ _ _ _ _ _ _ _ x _ _ _ _=>x
def aK.over:aK->List D->List D->List D
 | .mk _ _ _ _ _ _ _ _ _ _ _ _ _ _ _ _ _ _ _ _ _ _ _ _ x _ _ _=>x
def aK.fk:aK->List D->List D
 | .mk _ _ _ _ _ _ _ _ _ _ _ _ _ _ _ _ _ _ _ _ _ _ _ _ _ x _ _=>x
def aK.closed:aK->List D->Bool
 | .mk _ _ _ _ _ _ _ _ _ _ _ _ _ _ _ _ _ _ _ _ _ _ _ _ _ _ x _=>x
def aK.flat:aK->List D->Bool
 | .mk _ _ _ _ _ _ _ _ _ _ _ _ _ _ _ _ _ _ _ _ _ _ _ _ _ _ _ x=>x
mutual
def AV.refs:AV->List Id
 | .agg cs=>AV.bO cs
 | .tup cs=>AV.bO cs
 | .ptr r _=>[r]
 | .prow r _ _ _=>[r]
 | .arr r _ _ _=>[r]
 | .fn _ cs=>AV.bO cs
 | _=>[]
def AV.bO:List AV->List Id
 | []=>[]
 | a::l=>a.refs++AV.bO l
end
mutual
def AV.map (f:Id->Id):AV->AV
 | .agg cs=> .agg (AV.mC f cs)
 | .tup cs=> .tup (AV.mC f cs)
 | .ptr r o=> .ptr (f r) o
 | .prow r s i o=> .prow (f r) s i o
 | .arr r s g u=> .arr (f r) s g u
 | .fn g cs=> .fn g (AV.mC f cs)
 | x=>x
def AV.mC (f:Id->Id):List AV->List AV
 | []=>[]
 | a::l=>a.map f::AV.mC f l
end
def Obj.refs:Obj->List Id
 | .box cs=>AV.bO cs
 | .hrows _ _ _ _ q _=>[q]
 | _=>[]
def Obj.map (f:Id->Id):Obj->Obj
 | .box cs=> .box (AV.mC f cs)
 | .hrows s xs i off q e=> .hrows s xs i off (f q) e
 | x=>x
def Obj.rw:Obj->Option (gq×List D)
 | .box _=>none
 | .rows s xs=>some (s,xs)
 | .orows s xs=>some (s,xs)
 | .hrows s xs _ _ _ _=>some (s,xs)
 | .gone s xs=>some (s,xs)
def Obj.rd:Obj->Option (gq×List D)
 | .rows s xs=>some (s,xs)
 | .orows s xs=>some (s,xs)
 | .hrows s xs _ _ _ _=>some (s,xs)
 | _=>none
def Obj.deep:Obj->Bool
 | .orows _ _=>true
 | .hrows _ _ _ _ _ _=>true
 | _=>false
def bF.get (s:bF) (r:Id):Option Obj:=
 match s[r.1]? with
 | some l=>match l[r.2]? with
  | some o=>o
  | none=>none
 | none=>none
def bF.put (s:bF) (r:Id) (o:Option Obj):bF:=
 match s[r.1]? with
 | some l=>s.set r.1 (l.set r.2 o)
 | none=>s
def bF.lay (s:bF) (t:Nat) (l:List (Option Obj)):Option bF:=
 match s[t]? with
 | some old=>if old.all (·.isNone)then some (s.set t l)else none
 | none=>none
mutual
def AV.forget (p:Id->Bool):AV->AV
 | .agg cs=> .agg (AV.aO p cs)
 | .tup cs=> .tup (AV.aO p cs)
 | .ptr r o=>if p r then .undef else .ptr r o
 | .prow r s i o=>if p r then .undef else .prow r s i o
 | .arr r s g u=>if p r then .undef else .arr r s g u
 | .fn g cs=> .fn g (AV.aO p cs)
 | x=>x
def AV.aO (p:Id->Bool):List AV->List AV
 | []=>[]
 | a::l=>a.forget p::AV.aO p l
end
def Obj.forget (p:Id->Bool):Obj->Obj
 | .box cs=> .box (AV.aO p cs)
 | .hrows s xs i off q e=>if p q then .gone s xs else .hrows s xs i off q e
 | x=>x
def bF.forget (p:Id->Bool) (s:bF):bF:=s.map fun l=>l.map fun o=>o.map (·.forget p)
def St.kill (s:St) (r:Id):St:=⟨AV.aO (· ==r) s.env,(s.sto.put r none).forget (· ==r)⟩
def St.lay (s:St) (t:Nat) (l:List (Option Obj)):Option St:=
 match s.sto.lay t l with
 | some sto=>some ⟨s.env,sto⟩
 | none=>none
def D.many:D->Bool
 | .agg _=>true
 | _=>false
def D.cells:D->List D
 | .agg cs=>cs
 | x=>[x]
def D.bQ (agg:Bool) (cs:List D):Option D:=
 match agg,cs with
 | true,cs=>some (.agg cs)
 | false,[x]=>if x.many then none else some x
 | false,_=>none
def AV.bQ (agg:Bool) (cs:List AV):Option AV:=
 match agg,cs with
 | true,cs=>some (.agg cs)
 | false,[x]=>some x
 | false,_=>none
def AV.cells:AV->List AV
 | .agg cs=>cs
 | x=>[x]
def cut {α:Type} (l:List α) (off n:Nat):Option (List α):=
 if off+n<=l.length then some ((l.drop off).take n)else none
def lay {α:Type} (l:List α) (off:Nat) (v:List α):Option (List α):=
 if off+v.length<=l.length then some (l.take off++v++l.drop (off+v.length))else none
section
variable (o:aK)
def content (s:bF):AV->Option (List D)
 | .d (.lst xs)=>some xs
 | .emp=>some []
 | .arr r _ g _=>match s.get r with
  | some (.rows _ xs)=>match g with
   | none=>some xs
   | some (a,n)=>o.sub xs a n
  | _=>none
 | _=>none
def Gk (g:Option (Int×Int)) (xs:List D):Option (List D):=match g with
 | none=>some xs
 | some (a,n)=>o.sub xs a n
def eH (s:bF):AV->Option (List D)
 | .arr r sz g u=>match s.get r with
  | some (.orows _ xs)=>Gk o g xs
  | some (.hrows _ xs _ _ _ _)=>Gk o g xs
  | _=>content o s (.arr r sz g u)
 | x=>content o s x
mutual
def fz (s:St):AV->Option (AV×St)
 | .emp=>some (.d (.lst []),s)
 | .arr r sz g u=>match s.sto.get r with
  | some (.orows _ xs)=>match g with
   | none=>some (.d (.lst (o.fk xs)),s.kill r)
   | some _=>none
  | _=>match content o s.sto (.arr r sz g u)with
   | some xs=>some (.d (.lst xs),s.kill r)
   | none=>none
 | .agg cs=>match yK s cs with
  | some (ds,s)=>some (.agg ds,s)
  | none=>none
 | .tup cs=>match yK s cs with
  | some (ds,s)=>some (.tup ds,s)
  | none=>none
 | x=>some (x,s)
def yK (s:St):List AV->Option (List AV×St)
 | []=>some ([],s)
 | a::l=>match fz s a with
  | some (x,s)=>match yK s l with
   | some (xs,s)=>some (x::xs,s)
   | none=>none
  | none=>none
end
mutual
def snap (s:bF):AV->Option AV
 | .emp=>some (.d (.lst []))
 | .arr r sz g u=>match s.get r with
  | some (.orows _ xs)=>match g with
   | none=>some (.d (.lst (o.fk xs)))
   | some _=>none
  | _=>match content o s (.arr r sz g u)with
   | some xs=>some (.d (.lst xs))
   | none=>none
 | .agg cs=>match iS s cs with
  | some ds=>some (.agg ds)
  | none=>none
 | x=>some x
def iS (s:bF):List AV->Option (List AV)
 | []=>some []
 | a::l=>match snap s a with
  | some x=>match iS s l with
   | some xs=>some (x::xs)
   | none=>none
  | none=>none
end
def dD:D->Bool
 | .own _ _=>false
 | .agg _=>false
 | _=>true
def jH (
    s:St):AV->Option (D×St)
 | .d x=>match dD x with
  | true=>some (x,s)
  | false=>none
 | .emp=>some (.lst [],s)
 | .arr r sz none _=>match sz.2 with
  | 0=>none
  | _+1=>match s.sto.get r with
   | some (.orows _ ys)=>some (.own sz ys,s.kill r)
   | some (.rows _ ys)=>match o.flat ys with
    | true=>some (.own sz ys,s.kill r)
    | false=>none
   | _=>none
 | _=>none
def yL (s:St):List AV->Option (List D×St)
 | []=>some ([],s)
 | a::l=>match jH o s a with
  | some (x,s)=>match yL s l with
   | some (xs,s)=>some (x::xs,s)
   | none=>none
  | none=>none
def pG (s:St) (sz:gq):AV->Option (List D×St)
 | .emp=>some ([],s)
 | .arr r sz' g u=>match jH o s (.arr r sz' g u)with
  | some (.own sz1 xs,s)=>if sz1=sz then some (xs,s)else none
  | _=>none
 | _=>none
def scalar:AV->Bool
 | .d (.int _ _)=>true
 | .d (.bool _)=>true
 | .d (.str _)=>true
 | .tup []=>true
 | .bare=>true
 | _=>false
def dL:List AV->Option (List D)
 | []=>some []
 | .d x::l=>match dL l with
  | some xs=>some (x::xs)
  | none=>none
 | _=>none
def dZ:List AV->Option (List D)
 | []=>some []
 | .d x::l=>match dZ l with
  | some xs=>some (x::xs)
  | none=>none
 | .emp::l=>match dZ l with
  | some xs=>some (.lst []::xs)
  | none=>none
 | _=>none
def Gl:AV->Option D
 | .d x=>some x
 | .agg cs=>match dL cs with
  | some ds=>some (.agg ds)
  | none=>none
 | _=>none
def ev (env:List AV):VX->Option AV
 | .tmp t=>env[t]?
 | .const a=>some a
def wP (env:List AV):List VX->Option (List AV)
 | []=>some []
 | x::l=>match ev env x with
  | some a=>match wP env l with
   | some as=>some (a::as)
   | none=>none
  | none=>none
def Dc (env:List AV):Option VX->Option (Option AV)
 | none=>some none
 | some x=>match ev env x with
  | some a=>some (some a)
  | none=>none
def reach (s:bF):Nat->List Id->List Id->Option (List Id)
 | _,[],acc=>some acc
 | 0,_::_,_=>none
 | n+1,r::todo,acc=>
  if acc.contains r then reach s n todo acc
  else match s.get r with
   | some ob=>reach s n (ob.refs++todo) (acc++[r])
   | none=>none
def idx (ids:List Id) (r:Id):Nat:=ids.findIdx (· ==r)
def iG (s:bF) (f:Id->Id):List Id->List (Option Obj)->Option bF
 | [],[]=>some s
 | r::ids,ob::obs=>iG (s.put r (ob.map (·.map f))) f ids obs
 | _,_=>none
def handed (m:kH) (as:List AV) (s:St):Option (List AV×St):=
 match m with
 | .ref=>some (as,s)
 | .frz=>yK o s as
 | _=>match iS o s.sto as with
  | some as=>some (as,s)
  | none=>none
def iH:List (Option Obj)->Bool
 | []=>true
 | some _::l=>iH l
 | none::_=>false
def St.buried (ids:List Id) (pars:List (Option Obj)) (s:St):St:=
 match iH pars with
 | true=>s
 | false=>⟨AV.aO (fun r=>ids.contains r&&(s.sto.get r).isNone) s.env,s.sto.forget fun r=>ids.contains r&&(s.sto.get r).isNone⟩
mutual
def eD:AV->Bool
 | .d (.int _ _)=>true
 | .d (.bool _)=>true
 | .d (.str _)=>true
 | .emp=>true
 | .arr _ _ _ _=>true
 | .agg cs=>lG cs
 | .tup cs=>lG cs
 | _=>false
def lG:List AV->Bool
 | []=>true
 | a::l=>match eD a with
  | true=>lG l
  | false=>false
end
def jd:List (Option Obj)->Bool
 | []=>true
 | some (.rows _ xs)::l=>match o.closed xs with
  | true=>jd l
  | false=>false
 | some (.orows _ xs)::l=>match o.closed xs with
  | true=>jd l
  | false=>false
 | _=>false
def eJ (
    f:FuncId) (m:kH) (raw:Bool) (as:List AV) (dst:Option Nat) (s:St):Option (AV×St):=
 match m with
 | .bor=>
      match iS o s.sto as with
  | none=>none
  | some as=>
   match (AV.bO as).isEmpty with
   | false=>none
   | true=>match o.call f as []with
    | none=>none
    | some c=>match scalar c.ret with
     | true=>some (c.ret,s)
     | false=>match raw,dst,c.pars,eD c.ret,jd o c.extra with
      | true,some t,[],true,true=>match s.lay t (c.extra.map fun ob=>ob.map (·.map fun r=>(t,r.2)))with
       | some s=>some (c.ret.map fun r=>(t,r.2),s)
       | none=>none
      | _,_,_,_,_=>none
 | m=>
  match m != .pure || (AV.bO as).isEmpty with
  | false=>none
  | true=>
  match handed o m as s with
  | none=>none
  | some (
      as,
        s)=>
   match reach s.sto 60 (AV.bO as) []with
   | none=>none
   | some ids=>
    match o.call f (AV.mC (fun r=>(1,idx ids r)) as) (ids.map fun r=>(s.sto.get r).map (·.map fun r=>(1,idx ids r)))with
    | none=>none
    | some c=>
     let back:Id->Id:=fun r=>if r.1=1 then ids.getD r.2 (0,0)else (dst.getD 0,r.2)
     match iG s.sto back ids c.pars with
     | none=>none
     | some sto=>
      match St.buried ids c.pars ⟨s.env,sto⟩with
      | s=>match c.extra with
       | []=>some (c.ret.map back,s)
       | e::ex=>match raw,dst with
        | true,some t=>match s.lay t ((e::ex).map fun ob=>ob.map (·.map back))with
         | some s=>some (c.ret.map back,s)
         | none=>none
        | _,_=>none
def bin (op:BinOp):AV->AV->Option AV
 | .d (.int k a),.d (.int k' b)=>
  match op with
  | .add | .sub | .mul | .and | .or | .xor=>if k=k' then some (.d (.int k (o.ar op k a b)))else none
  | .quo | .rem=>if k=k' then (match o.isZero b with | false=>some (.d (.int k (o.ar op k a b))) | true=>none)else none
  | .shl | .shr=>match o.cmp .lss b 0 with | false=>some (.d (.int k (o.ar op k a b))) | true=>none
  | .andNot=>none
  | _=>if k=k' then some (.d (.bool (o.cmp op a b)))else none
 | .d (.str a),.d (.str b)=>
  match op with
  | .add=>match o.qB a b with | true=>some (.d (.str (o.yI a b))) | false=>none
  | .eql | .neq | .lss | .leq | .gtr | .geq=>some (.d (.bool (o.gW op a b)))
  | _=>none
 | .d (.bool a),.d (.bool b)=>
  match op with
  | .eql=>some (.d (.bool (a==b)))
  | .neq=>some (.d (.bool (a !=b)))
  | _=>none
 | _,_=>none
def bF.rd (s:bF) (r:Id):Option (gq×List D):=match s.get r with
 | some ob=>ob.rd
 | none=>none
def loadAt (
      s:bF) (agg:Bool) (n:Nat):AV->Option AV
 | .ptr r off=>match s.get r with
  | some (.box cs)=>match cut cs off n with
   | some cs=>AV.bQ agg cs
   | none=>none
  | _=>none
 | .prow r sz i off=>match s.rd r with
  | some (
      sz',xs)=>if sz=sz' then match o.dm xs i with
    | some x=>if x.cells.length=sz.2 then match cut x.cells off n with
      | some cs=>AV.bQ agg (cs.map .d)
      | none=>none
     else none
    | none=>none
   else none
  | _=>none
 | .sp cs off=>match cut cs off n with
  | some cs=>AV.bQ agg (cs.map .d)
  | none=>none
 | _=>none
def AV.one:AV->Bool
 | .undef | .bare | .agg _ | .tup _=>false
 | _=>true
def storeAt (s:St) (n:Nat) (p x:AV):Option St:=
 let vs:=x.cells
 if vs.length≠n || !(vs.all AV.one)then none else
 match p with
 | .ptr r off=>match s.sto.get r with
   | some (.box cs)=>match lay cs off vs with
    | some cs=>some ⟨s.env,s.sto.put r (some (.box cs))⟩
    | none=>none
   | _=>none
 | .prow r sz i off=>match s.sto.get r with
  | some (.orows _ _)=>match yL o s vs with
   | some (
       ds,s2)=>match s2.sto.get r with
    | some (.orows sz' xs)=>match o.dm xs i with
     | some (.agg cs)=>if sz=sz'/\cs.length=sz.2 then match lay cs off ds with
       | some cs'=>some ⟨s2.env,s2.sto.put r (some (.orows sz (o.set xs i (.agg cs'))))⟩
       | none=>none
      else none
     | _=>none
    | _=>none
   | none=>none
  | _=>
      match yK o s vs with
   | some (
       vs,
         s)=>match dL vs with
    | some ds=>match s.sto.get r with
     | some (
         .rows sz' xs)=>if sz=sz' then match o.dm xs i with
       | some e=>if e.cells.length=sz.2 then match lay e.cells off ds with
         | some cs=>match D.bQ e.many cs with
          | some e'=>some ⟨s.env,s.sto.put r (some (.rows sz (o.set xs i e')))⟩
          | none=>none
         | none=>none
        else none
       | none=>none
      else none
     | _=>none
    | none=>none
   | none=>none
 | _=>none
def vk {α:Type} (cells:List α):List (Nat×List α)->Option (List α)
 | []=>some cells
 | (off,vs)::l=>match lay cells off vs with
  | some c=>vk c l
  | none=>none
def AV.whole:AV->Bool
 | .undef | .bare | .tup _=>false
 | _=>true
def je (
    env:List AV):List (Nat×Nat×VX)->Option (List (Nat×List AV))
 | []=>some []
 | (off,n,x)::l=>match ev env x with
  | some a=>match a.whole,a.cells.length==n with
   | true,true=>match je env l with
    | some ps=>some ((off,a.cells)::ps)
    | none=>none
   | _,_=>none
  | none=>none
def dH (env:List AV):List (Nat×VX)->Option (List (Nat×AV))
 | []=>some []
 | (i,x)::l=>match ev env x with
  | some a=>match dH env l with
   | some ps=>some ((i,a)::ps)
   | none=>none
  | none=>none
def oR:List AV->Option (List D)
 | []=>some []
 | a::l=>match Gl a with
  | some x=>match oR l with
   | some xs=>some (x::xs)
   | none=>none
  | none=>none
def j8 (sz:Nat) (xs:List D):List (Nat×D)->Option (List D)
 | []=>some xs
 | (i,x)::l=>if i<xs.length&&x.cells.length==sz then j8 sz (xs.set i x) l else none
def asInt:AV->Option Int
 | .d (.int _ n)=>some n
 | _=>none
def j9:Option AV->Option (Option Int)
 | none=>some none
 | some a=>match asInt a with
  | some n=>some (some n)
  | none=>none
def sliceAt (s:bF) (sz:gq) (x:AV) (lo hi mx:Option Int):Option AV:=
 match mx with
 | some m=>match content o s x,lo,hi with
  | some _,none,some h=>match o.isZero h,o.isZero m with
   | true,true=>some .emp
   | _,_=>none
  | _,_,_=>none
 | none=>match x with
  | .emp=>match lo,hi with
   | none,none=>some .emp
   | _,_=>match o.isZero (lo.getD 0),o.isZero (hi.getD 0)with
    | true,true=>some .emp
    | _,_=>none
  | .d (.lst xs)=>match (match lo with | none=>true | some _=>o.fits sz.2 0 xs)with
   | true=>match o.sub xs (lo.getD 0) (o.minus (hi.getD (o.len xs)) (lo.getD 0))with
    | some ys=>some (.d (.lst ys))
    | none=>none
   | false=>none
  | .arr r sz' g u=>match eH o s (.arr r sz' g u)with
   | none=>none
   | some xs=>match lo,hi with
    | none,none=>some (.arr r sz' g u)
    | _,_=>if sz=sz' then match o.sub xs (lo.getD 0) (o.minus (hi.getD (o.len xs)) (lo.getD 0))with
     | some _=>some (.arr r sz (some (match g with | none=>lo.getD 0 | some (a,_)=>o.plus a (lo.getD 0),o.minus (hi.getD (o.len xs)) (lo.getD 0))) false)
     | none=>none
     else none
  | _=>none
def AV.Hj:AV->Bool
 | .d (.bool _)=>true
 | _=>false
def AV.Bl:AV->Bool
 | .d (.str _)=>true
 | _=>false
def evalOp (
      env:List AV) (s:bF):lp->Option (AV×List (Option Obj))
 | .move x=>match ev env x with | some a=>some (a,[]) | none=>none
 | .pick c a b=>match ev env c,ev env a,ev env b with
  | some (.d (.bool t)),some x,some y=>match t with | true=>some (x,[]) | false=>some (y,[])
  | _,_,_=>none
 | .bin Hj op x y=>match ev env x,ev env y with
  | some a,some b=>match a.Hj==Hj with
   | true=>match bin o op a b with | some v=>some (v,[]) | none=>none
   | false=>none
  | _,_=>none
 | .eqNil ne x=>match ev env x with
  | some .nilp=>some (.d (.bool (!ne)),[])
  | some (.ptr _ _)=>some (.d (.bool ne),[])
  | some (.prow _ _ _ _)=>some (.d (.bool ne),[])
  | some (.sp _ _)=>some (.d (.bool ne),[])
  | _=>none
 | .neg x=>match ev env x with | some (.d (.int k n))=>some (.d (.int k (o.ar .sub k 0 n)),[]) | _=>none
 | .not x=>match ev env x with | some (.d (.bool b))=>some (.d (.bool (!b)),[]) | _=>none
 | .conv c x=>match ev env x with
  | some a=>match c,a with
   | .int k,.d (.int _ n)=>some (.d (.int k (o.wrap k n)),[])
   | .str,.d (.str t)=>some (.d (.str t),[])
   | .bytesToStr,a=>match content o s a with
    | some xs=>match o.ofBytes xs with | some t=>some (.d (.str t),[]) | none=>none
    | none=>none
   | _,_=>none
  | none=>none
 | .emptyRow=>some (.emp,[])
 | .mkfn f cap=>match wP env cap with | some as=>some (.fn f as,[]) | none=>none
 | .fieldAddr off x=>match ev env x with
  | some (.ptr r i)=>some (.ptr r (i+off),[])
  | some (.prow r sz i n)=>some (.prow r sz i (n+off),[])
  | some (.sp cs i)=>some (.sp cs (i+off),[])
  | _=>none
 | .field agg off n x=>match ev env x with
  | some (.agg cs)=>match cut cs off n with
   | some cs=>match AV.bQ agg cs with | some v=>some (v,[]) | none=>none
   | none=>none
  | _=>none
 | .indexAddr sz x i=>match ev env x,ev env i with
  | some (.d (.lst xs)),some (.d (.int _ n))=>match o.dm xs n with
   | some e=>if e.cells.length=sz.2 then some (.sp e.cells 0,[])else none
   | none=>none
  | some (.arr r sz' g u),some (.d (.int _ n))=>match eH o s (.arr r sz' g u)with
   | some xs=>match o.dm xs n with
    | some _=>if sz=sz' then some (.prow r sz (match g with | none=>n | some (a,_)=>o.plus a n) 0,[])else none
    | none=>none
   | none=>none
  | _,_=>none
 | .index x i=>match ev env x,ev env i with
  | some (.d (.str t)),some (.d (.int _ n))=>match o.yJ t n with | some b=>some (.d (.int .u8 b),[]) | none=>none
  | _,_=>none
 | .indexArr agg len n x i=>match ev env x,ev env i with
  | some (.agg cs),some (.d (.int _ k))=>if 0<=k/\k<len then match cut cs (k.toNat*n) n with
    | some cs=>match AV.bQ agg cs with | some v=>some (v,[]) | none=>none
    | none=>none
   else none
  | _,_=>none
 | .extract x i=>match ev env x with
  | some (.tup vs)=>match vs[i]? with | some v=>some (v,[]) | none=>none
  | _=>none
 | .len Bl x=>match ev env x with
  | some a=>match a.Bl==Bl with
   | false=>none
   | true=>match a with
    | .d (.str t)=>some (.d (.int .i64 (o.sLen t)),[])
    | .d (.lst xs)=>some (.d (.int .i64 (o.len xs)),[])
    | .emp=>some (.d (.int .i64 0),[])
    | .arr r sz g u=>match g with
     | some (_,n)=>some (.d (.int .i64 n),[])
     | none=>match eH o s (.arr r sz g u)with | some xs=>some (.d (.int .i64 (o.len xs)),[]) | none=>none
    | _=>none
  | none=>none
 | .slice isStr sz x lo hi mx=>match ev env x,Dc env lo,Dc env hi,Dc env mx with
  | some x,some lo,some hi,some mx=>match j9 lo,j9 hi,j9 mx with
   | some lo,some hi,some mx=>match isStr,x with
    | true,.d (.str t)=>match mx with
     | none=>match o.I0 t (lo.getD 0) (hi.getD (o.sLen t))with | some u=>some (.d (.str u),[]) | none=>none
     | some _=>none
    | false,x=>match sliceAt o s sz x lo hi mx with | some v=>some (v,[]) | none=>none
    | _,_=>none
   | _,_,_=>none
  | _,_,_,_=>none
 | .load agg n a=>match ev env a with
  | some p=>match loadAt o s agg n p with | some v=>some (v,[]) | none=>none
  | none=>none
 | .alloc cs=>some (.ptr (0,0) 0,[some (.box cs)])
 | .box x=>match ev env x with
  | some a=>match a with
   | .tup _ | .undef | .bare=>none
   | a=>some (.ptr (0,0) 0,[some (.box a.cells)])
  | none=>none
 | .build zero parts=>match je env parts with
  | some ps=>match vk zero ps with | some cs=>some (.agg cs,[]) | none=>none
  | none=>none
 | .makeSlice sz bytes agg zero l c=>match ev env l,ev env c with
  | some (
      .d (.int _ l)),some (.d (.int _ c))=>
   if zero.length=sz.2 then
    match dZ zero with
    | some ds=>match D.bQ agg ds with
     | some z=>match o.cmp .eql l c,o.eP bytes c with
      | true,true=>some (.arr (0,0) sz none true,[some (.rows sz (o.lW c z))])
      | _,_=>none
     | none=>none
    | none=>none
   else none
  | _,_=>none
 | _=>none
def Gm:Option (Int×Int)->Bool
 | none=>true
 | some (a,_)=>o.isZero a
def gR (
    r:Id) (s:St):Option St:=match s.sto.get r with
 | some (
     .hrows sz xs i off q esz)=>match s.sto.get q,o.dm xs i with
  | some (.orows esz' ys),some (.agg cs)=>if esz=esz' then match lay cs off [.own esz ys]with
    | some cs'=>some ((⟨s.env,s.sto.put r (some (.orows sz (o.set xs i (.agg cs'))))⟩:St).kill q)
    | none=>none
   else none
  | some (.rows esz' ys),some (.agg cs)=>match o.flat ys with
   | true=>if esz=esz' then match lay cs off [.own esz ys]with
     | some cs'=>some ((⟨s.env,s.sto.put r (some (.orows sz (o.set xs i (.agg cs'))))⟩:St).kill q)
     | none=>none
    else none
   | false=>none
  | _,_=>none
 | _=>some s
def jv (x:VX) (s:St):Option St:=match ev s.env x with
 | some (.prow r _ _ _)=>gR o r s
 | _=>none
def rJ (
    s:St) (dst:Option Nat) (sz:gq) (bytes:Nat) (x y:VX):Option (AV×St):=match ev s.env x,ev s.env y,dst with
 | some a,
      some b,some t=>match pG o s sz a with
  | some (
      xs,s)=>match jH o s b with
   | some (.own sz2 (y::ys),s)=>if sz2=sz then match o.fits sz.2 bytes (o.app xs (y::ys))with
     | true=>match s.lay t [some (.orows sz (o.app xs (y::ys)))]with
      | some s=>some (.arr (t,0) sz none false,s)
      | none=>none
     | false=>none
    else none
   | _=>none
  | none=>none
 | _,_,_=>none
def BT (s:bF) (cs:List AV) (off:Nat):Option (List D×Id×gq):=match cs[off]? with
 | some (.arr q esz none _)=>match dL (cs.set off (.d (.int .i64 0)))with
  | some ds=>match esz.2,ds.all dD,s.get q with
   | _+1,true,some (.rows _ _)=>some (ds.set off (.own esz []),q,esz)
   | _+1,true,some (.orows _ _)=>some (ds.set off (.own esz []),q,esz)
   | _,_,_=>none
  | none=>none
 | _=>none
def aJ (
    s:St) (dst:Option Nat):lp->Option (AV×St)
 | .store n a x=>match ev s.env a,ev s.env x with
  | some p,some v=>match storeAt o s n p v with | some s=>some (.bare,s) | none=>none
  | _,_=>none
 | .buildO sz x=>match ev s.env x,dst with
  | some (.agg cs),some t=>match yL o s cs with
   | some (ds,s)=>if ds.length=sz.2 then match s.lay t [some (.orows sz [.agg ds])]with
     | some s=>some (.arr (t,0) sz none true,s)
     | none=>none
    else none
   | none=>none
  | _,_=>none
 | .appendO sz bytes x y=>rJ o s dst sz bytes x y
 | .wQ x=>match ev s.env x with
  | some (
      .prow r sz i off)=>match s.sto.get r with
   | some (
       .orows sz' xs)=>match o.dm xs i with
    | some (
        .agg cs)=>match cut cs off 1 with
     | some [.own esz ys]=>match esz.2,dst with
      | _+1,some t=>if sz=sz'/\cs.length=sz.2 then match (⟨s.env,s.sto.put r (some (.hrows sz xs i off (t,0) esz))⟩:St).lay t [some (.orows esz ys)]with
        | some s=>some (.arr (t,0) esz none false,s)
        | none=>none
       else none
      | _,_=>none
     | _=>match loadAt o s.sto false 1 (.prow r sz i off)with | some v=>some (v,s) | none=>none
    | _=>none
   | _=>none
  | _=>none
 | .lendF x=>
        match ev s.env x with
  | some (
      .prow r sz i off)=>match s.sto.get r with
   | some (
       .orows sz' xs)=>match o.dm xs i with
    | some (
        .agg cs)=>match cut cs off 1 with
     | some [.own esz ys]=>match esz.2,dst,o.flat ys with
      | _+1,some t,true=>if sz=sz'/\cs.length=sz.2 then match (⟨s.env,s.sto.put r (some (.hrows sz xs i off (t,0) esz))⟩:St).lay t [some (.rows esz ys)]with
        | some s=>some (.arr (t,0) esz none false,s)
        | none=>none
       else none
      | _,_,_=>none
     | _=>none
    | _=>none
   | _=>none
  | _=>none
 | .appendE sz bytes x y=>match ev s.env x,ev s.env y,dst with
  | some .emp,some b,some t=>match content o s.sto b with
   | none=>none
   | some ys=>match o.fits sz.2 bytes ys with
    | true=>match s.lay t [some (.rows sz ys)]with
     | some s=>some (.arr (t,0) sz none false,s)
     | none=>none
    | false=>none
  | _,_,_=>none
 | .storeR n a x=>match ev s.env a,ev s.env x with
  | some (
      .prow r sz i off),some v=>match dL v.cells with
   | some ds=>if ds.length≠n then none else
    match s.sto.get r with
    | some (
        .rows sz' xs)=>if sz=sz' then match o.dm xs i with
      | some e=>if e.cells.length=sz.2 then match lay e.cells off ds with
        | some cs=>match D.bQ e.many cs with
         | some e'=>some (.bare,⟨s.env,s.sto.put r (some (.rows sz (o.set xs i e')))⟩)
         | none=>none
        | none=>none
       else none
      | none=>none
     else none
    | _=>none
   | none=>none
  | _,_=>none
 | .buildH sz off x=>match ev s.env x,dst with
  | some (.agg cs),some t=>match BT s.sto cs off with
   | some (ds,q,esz)=>if ds.length=sz.2 then match s.lay t [some (.hrows sz [.agg ds] 0 off q esz)]with
     | some s=>some (.arr (t,0) sz none true,s)
     | none=>none
    else none
   | none=>none
  | _,_=>none
 | .appendH sz bytes x y=>match ev s.env y with
  | some (.arr r _ none _)=>match gR o r s with
   | some s=>rJ o s dst sz bytes x y
   | none=>none
  | _=>none
 | .mx isMax x y=>match ev s.env x,ev s.env y with
  | some (.d (.int k a)),some (.d (.int k' b))=>if k=k' then match o.cmp .lss a b with
    | true=>match isMax with
     | true=>some (.d (.int k b),s)
     | false=>some (.d (.int k a),s)
    | false=>match isMax with
     | true=>some (.d (.int k a),s)
     | false=>some (.d (.int k b),s)
   else none
  | _,_=>none
 | .boxZ x=>match ev s.env x with
  | some a=>match dL a.cells with
   | some ds=>some (.sp ds 0,s)
   | none=>none
  | none=>none
 | .capE x=>match ev s.env x with
  | some .emp=>some (.d (.int .i64 0),s)
  | _=>none
 | .appendN sz bytes agg zero x n=>match ev s.env x,ev s.env n,dst with
  | some .emp,some (.d (.int _ n)),some t=>
   if zero.length=sz.2 then
    match dZ zero with
    | some ds=>match D.bQ agg ds with
     | some z=>match o.cmp .gtr n 0,o.eP bytes n with
      | true,true=>match s.lay t [some (.rows sz (o.lW n z))]with
       | some s=>some (.arr (t,0) sz none false,s)
       | none=>none
      | _,_=>none
     | none=>none
    | none=>none
   else none
  | _,_,_=>none
 | .callU x f m raw args=>match jv o x s with
  | some s=>match wP s.env args with
   | some as=>eJ o f m raw as dst s
   | none=>none
  | none=>none
 | .storeP n a x=>match ev s.env a,ev s.env x with
  | some (.ptr r off),some v=>match storeAt o s n (.ptr r off) v with | some s=>some (.bare,s) | none=>none
  | _,_=>none
 | .call f m raw args=>match wP s.env args with
  | some as=>eJ o f m raw as dst s
  | none=>none
 | .callv f m raw args=>match ev s.env f,wP s.env args with
  | some (.fn g cap),some as=>eJ o g m raw (as++cap) dst s
  | _,_=>none
 | .append sz bytes x y=>match ev s.env x,ev s.env y,dst with
  | some a,
       some b,some t=>match content o s.sto b with
   | none=>none
   | some ys=>match a with
    | .emp=>match o.fits sz.2 bytes ys with
      | true=>match s.lay t [some (.rows sz ys)]with
       | some s=>some (.arr (t,0) sz none false,s)
       | none=>none
      | false=>none
    | .arr r sz' g u=>match content o s.sto (.arr r sz' g u)with
     | some xs=>if sz=sz'&&Gm o g then
       match o.fits sz.2 bytes (o.app xs ys)with
       | true=>match (s.kill r).lay t [some (.rows sz (o.app xs ys))]with
        | some s=>some (.arr (t,0) sz none false,s)
        | none=>none
       | false=>none
      else none
     | none=>none
    | _=>none
  | _,_,_=>none
 | .copy sz x y=>match ev s.env x,ev s.env y with
  | some (.arr r sz' none _),some b=>match content o s.sto b,s.sto.get r with
   | some ys,some (.rows _ xs)=>if sz=sz' then match o.fits sz.2 0 ys with
     | true=>some (.undef,⟨s.env,s.sto.put r (some (.rows sz (o.over xs ys)))⟩)
     | false=>none
    else none
   | _,_=>none
  | _,_=>none
 | .buildSlice sz agg zero len parts=>match dH s.env parts,dst with
  | some ps,some t=>
   if zero.length=sz.2 then
    match dZ zero with
    | some ds=>match D.bQ agg ds with
     | some z=>match yK o s (ps.map (·.2))with
      | some (as,s)=>match oR as with
       | some xs=>match j8 sz.2 (List.replicate len z) ((ps.map (·.1)).zip xs)with
        | some []=>some (.emp,s)
        | some (x::xs)=>match s.lay t [some (.rows sz (x::xs))]with
         | some s=>some (.arr (t,0) sz none true,s)
         | none=>none
        | none=>none
       | none=>none
      | none=>none
     | none=>none
    | none=>none
   else none
  | _,_=>none
 | .buildRow sz agg zero len parts=>match dH s.env parts,dst with
  | some ps,some t=>
   if zero.length=sz.2 then
    match dZ zero with
    | some ds=>match D.bQ agg ds with
     | some z=>match oR (ps.map (·.2))with
      | some xs=>match j8 sz.2 (List.replicate len z) ((ps.map (·.1)).zip xs)with
       | some []=>some (.emp,s)
       | some (x::xs)=>match s.lay t [some (.rows sz (x::xs))]with
        | some s=>some (.arr (t,0) sz none true,s)
        | none=>none
       | none=>none
      | none=>none
     | none=>none
    | none=>none
   else none
  | _,_=>none
 | op=>match evalOp o s.env s.sto op with
  | some (v,[])=>some (v,s)
  | some (v,e::new)=>match dst with
   | some t=>match s.lay t (e::new)with
    | some s=>some (v.map fun r=>if r=(0,0)then (t,0)else r,s)
    | none=>none
   | none=>none
  | none=>none
def ep (env:List AV) (dst:Option Nat) (v:AV):List AV:=
 match dst with
 | some t=>env.set t v
 | none=>env
def wanted (env:List AV):Option (Nat×Bool)->Option Bool
 | none=>some true
 | some (t,w)=>match env[t]? with
  | some (.d (.bool b))=>some (match w with | true=>b | false=> !b)
  | some .bare=>some false
  | _=>none
def bf:List br->St->Option St
 | [],s=>some s
 | x::l,s=>match wanted s.env x.guard with
  | some true=>match aJ o s x.dst x.op with
   | some (v,s)=>bf l ⟨ep s.env x.dst v,s.sto⟩
   | none=>none
  | some false=>bf l ⟨ep s.env x.dst .bare,s.sto⟩
  | none=>none
def qC (live:List Nat):Nat->List AV->List AV
 | _,[]=>[]
 | n,a::l=>(if live.contains n then a else .undef)::qC live (n+1) l
def sK (live:List Nat):Nat->bF->bF
 | _,[]=>[]
 | n,a::l=>(if live.contains n then a else [])::sK live (n+1) l
def mask (liveE liveS:List Nat) (s:St):St:=
 ⟨AV.aO (fun r=> !liveS.contains r.1) (qC liveE 0 s.env),(sK liveS 0 s.sto).forget fun r=> !liveS.contains r.1⟩
def rowOf (own:Bool) (sz:gq) (xs:List D):Obj:=match own with
 | true=> .orows sz xs
 | false=> .rows sz xs
def dr:List (Nat×Option Nat×Nat×gq×Bool)->St->Option St
 | [],s=>some s
 | (t,
    none,slot,sz,own)::l,s=>match s.env[t]? with
  | some .emp=>match s.lay slot [some (rowOf own sz [])]with
   | some s=>dr l ⟨s.env.set t (.arr (slot,0) sz none false),s.sto⟩
   | none=>none
  | some (.arr r _ _ _)=>match own with
   | true=>match s.sto.get r with
    | some (.rows sz' xs)=>match o.flat xs with
     | true=>dr l ⟨s.env,s.sto.put r (some (.orows sz' xs))⟩
     | false=>none
    | _=>dr l s
   | false=>dr l s
  | _=>dr l s
 | (t,
    some c,slot,sz,own)::l,s=>match s.env[t]? with
  | some (
      .ptr r b)=>match s.sto.get r with
   | some (
       .box cs)=>match cs[b+c]? with
    | some .emp=>match s.lay slot [some (rowOf own sz [])]with
     | some s=>dr l ⟨s.env,s.sto.put r (some (.box (cs.set (b+c) (.arr (slot,0) sz none false))))⟩
     | none=>none
    | some (.arr q _ _ _)=>match own with
     | true=>match s.sto.get q with
      | some (.rows sz' xs)=>match o.flat xs with
       | true=>dr l ⟨s.env,s.sto.put q (some (.orows sz' xs))⟩
       | false=>none
      | _=>dr l s
     | false=>dr l s
    | _=>dr l s
   | _=>none
  | _=>none
def qD (g:Option (Int×Int)) (xs:List D):Option (List D):=match g with
 | none=>some xs
 | some (a,n)=>match o.isZero a with
  | true=>o.sub xs a n
  | false=>none
def yM (r:Id) (k:Nat) (q:Id) (slot:Nat) (sz:gq) (ob:Obj) (s:St):Option St:=match (s.kill q).lay slot [some ob]with
 | some s=>match s.sto.get r with
  | some (.box cs)=>some ⟨s.env,s.sto.put r (some (.box (cs.set k (.arr (slot,0) sz none false))))⟩
  | _=>none
 | none=>none
def Dd (t:Nat) (q:Id) (slot:Nat) (sz:gq) (ob:Obj) (s:St):Option St:=match (s.kill q).lay slot [some ob]with
 | some s=>some ⟨s.env.set t (.arr (slot,0) sz none false),s.sto⟩
 | none=>none
def Au:Nat->Option Nat->Nat->St->Option St
 | t,some c,slot,s=>match s.env[t]? with
  | some (
      .ptr r b)=>match s.sto.get r with
   | some (.box cs)=>match cs[b+c]? with
    | some (.arr q sz g _)=>match s.sto.get q with
     | some (.rows _ xs)=>match qD o g xs with
      | some ys=>yM r (b+c) q slot sz (.rows sz ys) s
      | none=>none
     | some (.orows _ xs)=>match qD o g xs with
      | some ys=>yM r (b+c) q slot sz (.orows sz ys) s
      | none=>none
     | _=>none
    | _=>some s
   | _=>none
  | _=>none
 | t,none,0,s=>match s.env[t]? with
  | some (.arr q sz g u)=>match fz o s (.arr q sz g u)with
   | some (.d x,s)=>some ⟨s.env.set t (.d x),s.sto⟩
   | _=>none
  | _=>some s
 | t,none,slot+1,s=>match s.env[t]? with
  | some (.arr q sz g _)=>match s.sto.get q with
   | some (.rows _ xs)=>match qD o g xs with
    | some ys=>Dd t q (slot+1) sz (.rows sz ys) s
    | none=>none
   | some (.orows _ xs)=>match qD o g xs with
    | some ys=>Dd t q (slot+1) sz (.orows sz ys) s
    | none=>none
   | _=>none
  | _=>some s
def homes:List (Nat×Option Nat×Nat)->St->Option St
 | [],s=>some s
 | (t,c,slot)::l,s=>match Au o t c slot s with
  | some s=>homes l s
  | none=>none
def exec:VC->St->Option (Out×St)
 | .skip,s=>some (.norm,s)
 | .reg ops,s=>match bf o ops s with
  | some s=>some (.norm,s)
  | none=>none
 | .regL ops x,s=>match bf o ops s with
  | some s=>match jv o x s with
   | some s=>some (.norm,s)
   | none=>none
  | none=>none
 | .regD _ ops x ps,s=>match bf o ops s with
  | some s=>match (match x with | some x=>jv o x s | none=>some s)with
   | some s=>match homes o ps s with
    | some s=>some (.norm,s)
    | none=>none
   | none=>none
  | none=>none
 | .regP ops ps,s=>match bf o ops s with
  | some s=>match homes o ps s with
   | some s=>some (.norm,s)
   | none=>none
  | none=>none
 | .clone x y c b m t dst sz bytes _ _,s=>match s.env[x]? with
  | some a=>
        match a with
   | .d (
      .lst _) | .arr _ _ _ _=>match content o s.sto a with
    | some xs=>match o.fits sz.2 bytes xs with
     | true=>match s.lay t [some (.rows sz xs)]with
      | some s=>if y<s.env.length/\c<s.env.length/\b<s.env.length/\m<s.env.length/\t<s.env.length/\dst<s.env.length then
        some (.ret,⟨((((((s.env.set y .undef).set c .undef).set b .undef).set m .undef).set t .undef).set dst (.arr (t,0) sz none false)),s.sto⟩)
       else none
      | none=>none
     | false=>none
    | none=>none
   | _=>none
  | none=>none
 | .seq a b,s=>match exec a s with
  | some (.norm,s)=>exec b s
  | r=>r
 | .cond c a b,s=>match ev s.env c with
  | some (.d (.bool t))=>match t with
   | true=>exec a s
   | false=>exec b s
  | _=>none
 | .block id c,s=>match exec c s with
  | some (.exit k,s)=>if k=id then some (.norm,s)else some (.exit k,s)
  | r=>r
 | .loop prom le ls key,s=>match dr o prom s with
  | some s=>o.loop key (mask le ls s)
  | none=>none
 | .exit id,s=>some (.exit id,s)
 | .ret,s=>some (.ret,s)
structure VL where
 liveE:List Nat
 liveS:List Nat
 outE:List Nat
 outS:List Nat
 body:VC
def sL (T:Nat->Option VL) (key:Nat) (s:St):Option (Out×St):=
 match T key with
 | none=>none
 | some l=>match exec o l.body s with
  | some (.norm,s)=>o.loop key (mask l.liveE l.liveS s)
  | some (out,s)=>some (out,mask l.outE l.outS s)
  | none=>none
structure VF where
 ntmps:Nat
 nargs:Nat
 results:List (Sum Nat (Nat×Bool×Nat))
 body:VC
def j_ (s:St):List (Sum Nat (Nat×Bool×Nat))->Option (List AV)
 | []=>some []
 | .inl t::l=>match s.env[t]?,j_ s l with
  | some a,some as=>some (a::as)
  | _,_=>none
 | .inr (t,agg,n)::l=>match s.env[t]? with
  | some p=>match loadAt o s.sto agg n p,j_ s l with
   | some a,some as=>some (a::as)
   | _,_=>none
  | none=>none
def nR (raw:Bool) (v:AV) (s:St):Option (AV×St):=match raw with
 | true=>some (v,s)
 | false=>fz o s v
def Gn:List AV->AV
 | [x]=>x
 | rs=> .tup rs
def sM (
    F:FuncId->Option (VF×Bool)) (f:FuncId) (as:List AV) (cs:List (Option Obj)):Option bk:=
 match F f with
 | none=>none
 | some (
     fn,
       raw)=>
  if as.length≠fn.nargs then none else
  let inn:Id->Id:=fun r=>(fn.ntmps+r.2,0)
  let s0:St:=⟨AV.mC inn as++List.replicate (fn.ntmps-fn.nargs) .bare,
   List.replicate fn.ntmps []++cs.map fun ob=>[ob.map (·.map inn)]⟩
  match exec o fn.body s0 with
  | some (.exit _,_) | none=>none
  | some (
      _,s)=>
   match j_ o s fn.results with
   | none=>none
   | some rs=>
    match nR o raw (Gn rs) s with
    | none=>none
    | some (v,s)=>
     let sto:=s.sto
     let pars:=(List.range cs.length).map fun i=>sto.get (fn.ntmps+i,0)
     let roots:=v.refs++pars.flatMap fun | some ob=>ob.refs | none=>[]
     match reach sto 60 (roots.filter fun r=>r.1<fn.ntmps) []with
     | none=>none
     | some ids=>
      match (ids.all fun r=>r.1<fn.ntmps)&&v.refs.all fun r=>(sto.get r).isSome with
      | false=>none
      | true=>
       let out:Id->Id:=fun r=>if r.1<fn.ntmps then (0,idx ids r)else (1,r.1-fn.ntmps)
       some ⟨v.map out,pars.map fun ob=>ob.map (·.map out),(ids.map fun r=>(sto.get r).map (·.map out))⟩
end
end Go.Vi
namespace Go.Vi
open Go Go.RowKit
def bX (w:World) (b:Nat):Nat:=match w.heap[b]? with | some (.cells c _ _)=>c.size | _=>0
mutual
def RD (w:World) (Z:Nat->Prop):D->List Value->Prop
 | .int k n,cs=>cs=[.int k n]
 | .bool b,cs=>cs=[.bool b]
 | .str s,cs=>cs=[.string s]
 | .agg ds,cs=>eR w Z ds cs
 | .lst xs,cs=>∃a c,cs=[.slice a xs.length c]/\xs.length<=c/\(xs=[]\/∃b o sz,a=some ⟨b,o,none⟩/\Z b/\Rows w Z xs b o sz)
 | .own _ _,cs=>∃a n c,cs=[.slice a n c]
def eR (w:World) (Z:Nat->Prop):List D->List Value->Prop
 | [],cs=>cs=[]
 | d::ds,cs=>∃v cs',cs=v::cs'/\RD w Z d [v]/\eR w Z ds cs'
def Rows (w:World) (Z:Nat->Prop):List D->Nat->Nat->Nat->Prop
 | [],_,_,_=>True
 | x::xs,b,o,sz=>(∃cs,cs.length=sz/\RD w Z x cs/\∀j v,cs[j]? =some v->w.cell? ⟨b,o+j,none⟩=some v)/\Rows w Z xs b (o+sz) sz
end
mutual
def OC (w:World) (Z:Nat->Prop):D->Value->List Nat->Prop
 | .own sz xs,v,F=>∃a c,(v= .slice a xs.length c/\c<=maxLen)/\((c=0/\xs=[]/\F=[])\/
  ∃b vs F',a=some ⟨b,0,none⟩/\F=b::F'/\w.heap[b]? =some (.cells vs sz.1 (0,0))/\c*sz.2=vs.size/\0<sz.2/\xs.length*sz.2<=vs.size/\iO w Z sz.2 xs vs.toList F')
 | .agg _,_,_=>False
 | .int k n,v,F=>RD w Z (.int k n) [v]/\F=[]
 | .bool b,v,F=>RD w Z (.bool b) [v]/\F=[]
 | .str s,v,F=>RD w Z (.str s) [v]/\F=[]
 | .lst xs,v,F=>RD w Z (.lst xs) [v]/\F=[]
def lX (w:World) (Z:Nat->Prop):List D->List Value->List Nat->Prop
 | [],vs,F=>vs=[]/\F=[]
 | d::ds,vs,F=>∃v vs' F1 F2,vs=v::vs'/\F=F1++F2/\OC w Z d v F1/\lX w Z ds vs' F2
def OE (w:World) (Z:Nat->Prop):D->List Value->List Nat->Prop
 | .agg ds,vs,F=>lX w Z ds vs F
 | .own sz xs,vs,F=>∃v,vs=[v]/\OC w Z (.own sz xs) v F
 | .int k n,vs,F=>RD w Z (.int k n) vs/\F=[]
 | .bool b,vs,F=>RD w Z (.bool b) vs/\F=[]
 | .str s,vs,F=>RD w Z (.str s) vs/\F=[]
 | .lst xs,vs,F=>RD w Z (.lst xs) vs/\F=[]
def iO (w:World) (Z:Nat->Prop) (n:Nat):List D->List Value->List Nat->Prop
 | [],_,F=>F=[]
 | x::xs,vs,F=>∃F1 F2,n<=vs.length/\F=F1++F2/\OE w Z x (vs.take n) F1/\iO w Z n xs (vs.drop n) F2
end
def bC (g:Option (Int×Int)):Nat:=match g with | none=>0 | some (x,_)=>x.toNat
structure Loc where
 main:Id->Option Nat
 nest:Id->Nat->Prop
instance:CoeFun Loc fun _=>Id->Option Nat:=⟨Loc.main⟩
def Loc.none:Loc:=⟨fun _=>Option.none,fun _ _=>False⟩
structure Cx where
 w:World
 Z:Nat->Prop
 L:Loc
 obj:Id->Option Obj
mutual
def RV (c:Cx):AV->Value->Prop
 | .undef,_=>True
 | .bare,v=>v=Go.undef
 | .d x,v=>RD c.w c.Z x [v]
 | .agg as,v=>∃vs:List Value,v= .agg vs.toArray/\dg c as vs
 | .tup as,v=>∃vs:List Value,v= .tuple vs.toArray/\dg c as vs
 | .nilp,v=>v= .pointer none
 | .emp,v=>∃a,v= .slice a 0 0
 | .ptr r off,v=>∃b,(c.obj r).isSome/\c.L r=some b/\v= .pointer (some ⟨b,off,none⟩)
 | .prow r sz i off,v=>∃b,(c.obj r).isSome/\c.L r=some b/\0<=i/\v= .pointer (some ⟨b,i.toNat*sz.2+off,none⟩)
 | .sp cs off,v=>∃b o vs,v= .pointer (some ⟨b,o+off,none⟩)/\c.Z b/\eR c.w c.Z cs vs/\∀j u,vs[j]? =some u->c.w.cell? ⟨b,o+j,none⟩=some u
 | .arr r sz g full,v=>∃a n cap xs,v= .slice a n cap/\(n<=cap/\cap<=maxLen)/\(full=true->cap=n)/\(c.obj r).bind Obj.rw=some (sz,xs)/\(g=none->n=xs.length)/\
  (∀x m,g=some (x,m)->0<=x/\m=n/\x.toNat+n<=xs.length)/\
  (c.L r=none->cap=0)/\
  ∀b,c.L r=some b->(cap=0/\bC g≠0)\/(a=some ⟨b,bC g*sz.2,none⟩/\(bC g+cap)*sz.2=bX c.w b)
 | .fn f as,v=>∃vs:List Value,v= .func (.func f) #[] vs.toArray/\dg c as vs
def dg (c:Cx):List AV->List Value->Prop
 | [],vs=>vs=[]
 | a::as,vs=>∃v vs',vs=v::vs'/\RV c a v/\dg c as vs'
end
def RO (c:Cx) (r:Id):Obj->Prop
 | .box as=>∃b vs ty,c.L r=some b/\c.w.heap[b]? =some (.cells vs ty (0,0))/\dg c as vs.toList
 | .rows sz xs=>(c.L r=none->xs=[])/\∀b,c.L r=some b->∃vs,c.w.heap[b]? =some (.cells vs sz.1 (0,0))/\xs.length*sz.2<=vs.size/\Rows c.w c.Z xs b 0 sz.2
 | .orows sz xs=>(c.L r=none->xs=[]/\∀k,¬c.L.nest r k)/\∀b,c.L r=some b->∃vs F,c.w.heap[b]? =some (.cells vs sz.1 (0,0))/\xs.length*sz.2<=vs.size/\iO c.w c.Z sz.2 xs vs.toList F/\(b::F).Nodup/\∀k,c.L.nest r k↔k∈F
 | .hrows sz xs i off q esz=>∃b vs pre ys0 post A1 A2 B1 B2 v,c.L r=some b/\c.w.heap[b]? =some (.cells vs sz.1 (0,0))/\xs.length*sz.2<=vs.size/\0<=i/\xs[i.toNat]? =some (.agg (pre++ .own esz ys0::post))/\
  pre.length=off/\pre.length+1+post.length=sz.2/\iO c.w c.Z sz.2 (xs.take i.toNat) vs.toList A1/\lX c.w c.Z pre ((vs.toList.drop (i.toNat*sz.2)).take off) A2/\
  lX c.w c.Z post ((vs.toList.drop (i.toNat*sz.2+off+1)).take (sz.2-(off+1))) B1/\iO c.w c.Z sz.2 (xs.drop (i.toNat+1)) (vs.toList.drop ((i.toNat+1)*sz.2)) B2/\
  vs[i.toNat*sz.2+off]? =some v/\RV c (.arr q esz none false) v/\0<esz.2/\(b::(A1++A2++B1++B2)).Nodup/\∀k,c.L.nest r k↔k∈A1++A2++B1++B2
 | .gone sz xs=>(c.L r=none->xs=[])/\∀b,c.L r=some b->∃vs,c.w.heap[b]? =some (.cells vs sz.1 (0,0))/\xs.length*sz.2<=vs.size
theorem qE {w w':World} {b o:Nat} (h:w'.heap[b]? =w.heap[b]?):w'.cell? ⟨b,o,none⟩=w.cell? ⟨b,o,none⟩:=by
 simp [World.cell?,h]
theorem dh {w w':World} {b:Nat} (h:w'.heap[b]? =w.heap[b]?):bX w' b=bX w b:=by
 simp [bX,h]
def jA (w w':World) (Z Z':Nat->Prop):Prop:=∀b,Z b->Z' b/\w'.heap[b]? =w.heap[b]?
theorem jA.refl (w:World) (Z:Nat->Prop):jA w w Z Z:=fun _ h=>⟨h,rfl⟩
theorem jA.trans {a b c:World} {X Y Z:Nat->Prop} (h:jA a b X Y) (k:jA b c Y Z):jA a c X Z:=
 fun i hi=>⟨(k i (h i hi).1).1,(k i (h i hi).1).2.trans (h i hi).2⟩
mutual
theorem cO {w w':World} {Z Z':Nat->Prop} (hz:jA w w' Z Z'):∀(x:D) (cs:List Value),RD w Z x cs->RD w' Z' x cs
 | .int k n,cs,h=>by simpa only [RD]using h
 | .bool b,cs,h=>by simpa only [RD]using h
 | .str s,cs,h=>by simpa only [RD]using h
 | .agg ds,cs,h=>by
  simp only [RD]at h |-;exact nT hz ds cs h
 | .lst xs,cs,h=>by
  simp only [RD]at h |-;obtain ⟨a,c,h1,h2,h3⟩:=h;refine ⟨a,c,h1,h2,?_⟩;rcases h3 with h3 | ⟨b,o,sz,h4,h5,h6⟩
  ·exact .inl h3
  ·exact .inr ⟨b,o,sz,h4,(hz b h5).1,lH hz (hz b h5).2 xs o sz h6⟩
 | .own sz xs,cs,h=>by simpa only [RD]using h
theorem nT {w w':World} {Z Z':Nat->Prop} (hz:jA w w' Z Z'):∀(xs:List D) (cs:List Value),eR w Z xs cs->eR w' Z' xs cs
 | [],cs,h=>by simpa only [eR]using h
 | x::xs,cs,h=>by
  simp only [eR]at h |-;obtain ⟨v,cs',h1,h2,h3⟩:=h;exact ⟨v,cs',h1,cO hz x _ h2,nT hz xs _ h3⟩
theorem lH {w w':World} {Z Z':Nat->Prop} (hz:jA w w' Z Z') {b:Nat} (hb:w'.heap[b]? =w.heap[b]?):∀(xs:List D) (o sz:Nat),Rows w Z xs b o sz->Rows w' Z' xs b o sz
 | [],o,sz,h=>by simp only [Rows]
 | x::xs,o,sz,h=>by
  simp only [Rows]at h |-;obtain ⟨⟨cs,h1,h2,h3⟩,h4⟩:=h;exact ⟨⟨cs,h1,cO hz x _ h2,fun j v hj=>(qE hb).trans (h3 j v hj)⟩,lH hz hb xs _ sz h4⟩
end
theorem yN {w:World} {Z:Nat->Prop} {x:D} {cs:List Value} (h:RD w Z x cs):cs.length=x.cells.length:=by
 have key:∀(ds:List D) (cs:List Value),eR w Z ds cs->cs.length=ds.length:=by
  intro ds;induction ds with
  | nil=>intro cs h;simp only [eR]at h;simp [h]
  | cons d ds ih=>
   intro cs h;simp only [eR]at h;obtain ⟨v,cs',rfl,_,h3⟩:=h;simp [ih _ h3]
 cases x with
 | agg ds=>simp only [RD]at h;simpa [D.cells]using key ds cs h
 | lst xs=>simp only [RD]at h;obtain ⟨a,c,rfl,_⟩:=h;rfl
 | own sz xs=>simp only [RD]at h;obtain ⟨a,n,c,rfl⟩:=h;rfl
 | _=>simp only [RD]at h;subst h;rfl
theorem qF {w:World} {Z:Nat->Prop} {x:D} {cs:List Value} (h:RD w Z x cs):eR w Z x.cells cs:=by
 cases x with
 | agg ds=>simpa only [RD,D.cells]using h
 | lst xs=>have h':=h;simp only [RD]at h;obtain ⟨a,c,rfl,_⟩:=h;simp only [D.cells,eR];exact ⟨_,_,rfl,h',rfl⟩
 | own sz xs=>have h':=h;simp only [RD]at h;obtain ⟨a,n,c,rfl⟩:=h;simp only [D.cells,eR];exact ⟨_,_,rfl,h',rfl⟩
 | _=>have h':=h;simp only [RD]at h;subst h;simp only [D.cells,eR];exact ⟨_,_,rfl,h',rfl⟩
theorem dV {w:World} {Z:Nat->Prop}:∀{ds:List D} {cs:List Value},eR w Z ds cs↔ds.length=cs.length/\∀(i:Nat) (d:D) (v:Value),ds[i]? =some d->cs[i]? =some v->RD w Z d [v]
 | [],cs=>by
  simp only [eR];constructor
  ·rintro rfl;simp
  ·rintro ⟨h,_⟩;exact List.length_eq_zero_iff.1 h.symm
 | d::ds,cs=>by
  simp only [eR];constructor
  ·rintro ⟨v,cs',rfl,h1,h2⟩;obtain ⟨h3,h4⟩:=dV.1 h2;refine ⟨by simp [h3],?_⟩;intro i d' v' hd hv;cases i with
   | zero=>simp at hd hv;subst hd;subst hv;exact h1
   | succ i=>simp at hd hv;exact h4 i d' v' hd hv
  ·rintro ⟨h1,h2⟩;cases cs with
   | nil=>simp at h1
   | cons v cs'=>exact ⟨v,cs',rfl,h2 0 d v rfl rfl,dV.2 ⟨by simpa using h1,fun i d' v' hd hv=>h2 (i+1) d' v' (by simpa using hd) (by simpa using hv)⟩⟩
theorem bL {c:Cx}:∀{as:List AV} {vs:List Value},dg c as vs↔as.length=vs.length/\∀(i:Nat) (a:AV) (v:Value),as[i]? =some a->vs[i]? =some v->RV c a v
 | [],vs=>by
  simp only [dg];constructor
  ·rintro rfl;simp
  ·rintro ⟨h,_⟩;exact List.length_eq_zero_iff.1 h.symm
 | d::ds,cs=>by
  simp only [dg];constructor
  ·rintro ⟨v,cs',rfl,h1,h2⟩;obtain ⟨h3,h4⟩:=bL.1 h2;refine ⟨by simp [h3],?_⟩;intro i d' v' hd hv;cases i with
   | zero=>simp at hd hv;subst hd;subst hv;exact h1
   | succ i=>simp at hd hv;exact h4 i d' v' hd hv
  ·rintro ⟨h1,h2⟩;cases cs with
   | nil=>simp at h1
   | cons v cs'=>exact ⟨v,cs',rfl,h2 0 d v rfl rfl,bL.2 ⟨by simpa using h1,fun i d' v' hd hv=>h2 (i+1) d' v' (by simpa using hd) (by simpa using hv)⟩⟩
theorem eK {w:World} {Z:Nat->Prop} {b sz:Nat}:∀{xs:List D} {o:Nat},Rows w Z xs b o sz↔
  ∀(i:Nat) (x:D),xs[i]? =some x->∃cs,cs.length=sz/\RD w Z x cs/\∀j v,cs[j]? =some v->w.cell? ⟨b,o+i*sz+j,none⟩=some v
 | [],o=>by simp [Rows]
 | x::xs,o=>by
  simp only [Rows];constructor
  ·rintro ⟨h1,h2⟩ i y hy;cases i with
   | zero=>simp at hy;subst hy;simpa using h1
   | succ i=>
    simp at hy;obtain ⟨cs,h3,h4,h5⟩:=eK.1 h2 i y hy;refine ⟨cs,h3,h4,fun j v hj=> ?_⟩;rw [show o+(i+1)*sz+j=o+sz+i*sz+j by rw [Nat.succ_mul];omega];exact h5 j v hj
  ·intro h;refine ⟨by simpa using h 0 x rfl,eK.2 fun i y hy=> ?_⟩;obtain ⟨cs,h3,h4,h5⟩:=h (i+1) y (by simpa using hy);refine ⟨cs,h3,h4,fun j v hj=> ?_⟩;rw [show o+sz+i*sz+j=o+(i+1)*sz+j by rw [Nat.succ_mul];omega];exact h5 j v hj
def Same (c c':Cx) (r:Id):Prop:=
 c'.L r=c.L r/\((c.obj r).isSome->(c'.obj r).isSome)/\(∀sz xs,(c.obj r).bind Obj.rw=some (sz,xs)->∃ys,(c'.obj r).bind Obj.rw=some (sz,ys)/\ys.length=xs.length)/\
 ∀b,c.L r=some b->(c.obj r).isSome->bX c'.w b=bX c.w b
mutual
theorem jI {c c':Cx} (hz:jA c.w c'.w c.Z c'.Z):∀(a:AV) (v:Value),(∀r∈a.refs,Same c c' r)->RV c a v->RV c' a v
 | .undef,v,_,h=>by simp only [RV]
 | .bare,v,_,h=>by simpa only [RV]using h
 | .d x,v,_,h=>by simp only [RV]at h |-;exact cO hz x _ h
 | .agg as,v,hr,h=>by
  simp only [RV]at h |-;obtain ⟨vs,h1,h2⟩:=h;exact ⟨vs,h1,ct hz as vs (by simpa [AV.refs]using hr) h2⟩
 | .tup as,v,hr,h=>by
  simp only [RV]at h |-;obtain ⟨vs,h1,h2⟩:=h;exact ⟨vs,h1,ct hz as vs (by simpa [AV.refs]using hr) h2⟩
 | .nilp,v,_,h=>by simpa only [RV]using h
 | .emp,v,_,h=>by simpa only [RV]using h
 | .ptr r off,v,hr,h=>by
  simp only [RV]at h |-;obtain ⟨b,h1,h2,h3⟩:=h;obtain ⟨k1,k2,_,_⟩:=hr r (by simp [AV.refs]);exact ⟨b,k2 h1,k1.trans h2,h3⟩
 | .prow r sz i off,v,hr,h=>by
  simp only [RV]at h |-;obtain ⟨b,h1,h2,h3⟩:=h;obtain ⟨k1,k2,_,_⟩:=hr r (by simp [AV.refs]);exact ⟨b,k2 h1,k1.trans h2,h3⟩
 | .sp cs off,v,_,h=>by
  simp only [RV]at h |-;obtain ⟨b,o,vs,h1,h2,h3,h4⟩:=h;exact ⟨b,o,vs,h1,(hz b h2).1,nT hz cs vs h3,fun j u hj=>(qE (hz b h2).2).trans (h4 j u hj)⟩
 | .arr r sz g full,v,hr,h=>by
  simp only [RV]at h |-;obtain ⟨a,n,cap,xs,h1,h2,h3,h4,h5,h6,h7,h8⟩:=h;obtain ⟨k1,_,k3,k4⟩:=hr r (by simp [AV.refs]);obtain ⟨ys,k5,k6⟩:=k3 sz xs h4;refine ⟨a,n,cap,ys,h1,h2,h3,k5,fun e=>by rw [k6];exact h5 e,fun x m e=>by rw [k6];exact h6 x m e,fun e=>h7 (k1 ▸ e),fun b e=> ?_⟩;have e':=k1 ▸ e;rcases h8 b e' with m | ⟨m1,m2⟩
  ·exact .inl m
  ·exact .inr ⟨m1,by rw [k4 b e' (by cases ho:c.obj r with | none=>simp [ho]at h4 | some _=>rfl)];exact m2⟩
 | .fn f as,v,hr,h=>by
  simp only [RV]at h |-;obtain ⟨vs,h1,h2⟩:=h;exact ⟨vs,h1,ct hz as vs (by simpa [AV.refs]using hr) h2⟩
theorem ct {c c':Cx} (hz:jA c.w c'.w c.Z c'.Z):∀(as:List AV) (vs:List Value),(∀r∈AV.bO as,Same c c' r)->dg c as vs->dg c' as vs
 | [],vs,_,h=>by simpa only [dg]using h
 | a::as,vs,hr,h=>by
  simp only [dg]at h |-;obtain ⟨v,vs',h1,h2,h3⟩:=h;exact ⟨v,vs',h1,jI hz a v (fun r hm=>hr r (by simp [AV.bO,hm])) h2,ct hz as vs' (fun r hm=>hr r (by simp [AV.bO,hm])) h3⟩
end
mutual
theorem Df {w w':World} {Z Z':Nat->Prop} (hz:jA w w' Z Z'):∀(x:D) (v:Value) (F:List Nat),(∀k∈F,w'.heap[k]? =w.heap[k]?)->OC w Z x v F->OC w' Z' x v F
 | .own sz xs,v,F,hf,h=>by
  simp only [OC]at h |-;obtain ⟨a,c,h1,h2⟩:=h;refine ⟨a,c,h1,h2.imp id ?_⟩;rintro ⟨b,vs,F',e1,rfl,e3,e4,e5,e6,e7⟩;exact ⟨b,vs,F',e1,rfl,(hf b (by simp)).trans e3,e4,e5,e6,fZ hz sz.2 xs vs.toList F' (fun k hk=>hf k (by simp [hk])) e7⟩
 | .agg _,_,_,_,h=>by simp [OC]at h
 | .int k n,v,F,_,h=>by simp only [OC]at h |-;exact ⟨cO hz _ _ h.1,h.2⟩
 | .bool b,v,F,_,h=>by simp only [OC]at h |-;exact ⟨cO hz _ _ h.1,h.2⟩
 | .str s,v,F,_,h=>by simp only [OC]at h |-;exact ⟨cO hz _ _ h.1,h.2⟩
 | .lst xs,v,F,_,h=>by simp only [OC]at h |-;exact ⟨cO hz _ _ h.1,h.2⟩
theorem jn {w w':World} {Z Z':Nat->Prop} (hz:jA w w' Z Z'):∀(xs:List D) (vs:List Value) (F:List Nat),(∀k∈F,w'.heap[k]? =w.heap[k]?)->lX w Z xs vs F->lX w' Z' xs vs F
 | [],vs,F,_,h=>by simpa only [lX]using h
 | d::ds,vs,F,hf,h=>by
  simp only [lX]at h |-;obtain ⟨v,vs',F1,F2,h1,rfl,h2,h3⟩:=h;exact ⟨v,vs',F1,F2,h1,rfl,Df hz d v F1 (fun k hk=>hf k (by simp [hk])) h2,jn hz ds vs' F2 (fun k hk=>hf k (by simp [hk])) h3⟩
theorem I3 {w w':World} {Z Z':Nat->Prop} (hz:jA w w' Z Z'):∀(x:D) (vs:List Value) (F:List Nat),(∀k∈F,w'.heap[k]? =w.heap[k]?)->OE w Z x vs F->OE w' Z' x vs F
 | .agg ds,vs,F,hf,h=>by simp only [OE]at h |-;exact jn hz ds vs F hf h
 | .own sz xs,vs,F,hf,h=>by
  simp only [OE]at h |-;obtain ⟨v,h1,h2⟩:=h;exact ⟨v,h1,Df hz (.own sz xs) v F hf h2⟩
 | .int k n,vs,F,_,h=>by simp only [OE]at h |-;exact ⟨cO hz _ _ h.1,h.2⟩
 | .bool b,vs,F,_,h=>by simp only [OE]at h |-;exact ⟨cO hz _ _ h.1,h.2⟩
 | .str s,vs,F,_,h=>by simp only [OE]at h |-;exact ⟨cO hz _ _ h.1,h.2⟩
 | .lst xs,vs,F,_,h=>by simp only [OE]at h |-;exact ⟨cO hz _ _ h.1,h.2⟩
theorem fZ {w w':World} {Z Z':Nat->Prop} (hz:jA w w' Z Z') (n:Nat):∀(xs:List D) (vs:List Value) (F:List Nat),(∀k∈F,w'.heap[k]? =w.heap[k]?)->iO w Z n xs vs F->iO w' Z' n xs vs F
 | [],vs,F,_,h=>by simpa only [iO]using h
 | x::xs,vs,F,hf,h=>by
  simp only [iO]at h |-;obtain ⟨F1,F2,h1,rfl,h2,h3⟩:=h;exact ⟨F1,F2,h1,rfl,I3 hz x _ F1 (fun k hk=>hf k (by simp [hk])) h2,fZ hz n xs _ F2 (fun k hk=>hf k (by simp [hk])) h3⟩
end
theorem Obj.jP {p:Id->Bool} (o:Obj):(o.forget p).rw=o.rw:=by
 cases o<;>first
  | rfl
  | (simp only [Obj.forget];split<;>rfl)
theorem Obj.ld {f:Id->Id} (o:Obj):(o.map f).rw=o.rw:=by cases o<;>rfl
theorem Obj.vo {f:Id->Id} (o:Obj):(o.map f).deep=o.deep:=by cases o<;>rfl
def Obj.has (o:Obj) (L:Loc) (r:Id) (b:Nat):Prop:=L r=some b\/(o.deep=true/\L.nest r b)
theorem Obj.di {p:Id->Bool} {o:Obj} {L:Loc} {r:Id} {b:Nat} (h:(o.forget p).has L r b):o.has L r b:=by
 rcases h with h | ⟨h1,h2⟩
 ·exact .inl h
 ·refine .inr ⟨?_,h2⟩;cases o<;>first
   | exact h1
   | (simp only [Obj.forget]at h1;split at h1<;>first | rfl | cases h1)
end Go.Vi
