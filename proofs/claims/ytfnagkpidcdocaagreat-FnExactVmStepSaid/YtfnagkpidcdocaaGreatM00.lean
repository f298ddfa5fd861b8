import GoSem.Core.Code
set_option linter.all false
namespace Go.Vi
theorem aq {α:Type} {l:List α} {i:Nat} {a:α}:l[i]? =some a↔∃h:i<l.length,l[i]=a:=List.getElem?_eq_some_iff
theorem bg {α:Type} {l:List α} {i:Nat} (h:i<l.length):l[i]? =some l[i]:=List.getElem?_eq_getElem h
theorem af (a b:Bool):((a&&b)=true)=(a=true/\b=true):=Bool.and_eq_true a b
def wS (f:FuncId):FuncId:=f%100000
inductive D where
 | int (k:IntKind) (n:Int)
 | bool (b:Bool)
 | str (s:ByteArray)
 | lst (xs:List D)
 | agg (cs:List D)
 | own (sz:Nat×Nat) (xs:List D)
 deriving Inhabited
abbrev Id:=Nat×Nat
abbrev gG:=Nat×Nat
inductive AV where
 | undef
 | bare
 | d (x:D)
 | agg (cs:List AV)
 | tup (vs:List AV)
 | nilp
 | emp
 | ptr (r:Id) (off:Nat)
 | prow (r:Id) (sz:gG) (i:Int) (off:Nat)
 | sp (cs:List D) (off:Nat)
 | arr (r:Id) (sz:gG) (rng:Option (Int×Int)) (full:Bool)
 | fn (f:FuncId) (cap:List AV)
 deriving Inhabited
inductive Obj where
 | box (cs:List AV)
 | rows (sz:gG) (xs:List D)
 | orows (sz:gG) (xs:List D)
 | hrows (sz:gG) (xs:List D) (i:Int) (off:Nat) (q:Id) (esz:gG)
 | gone (sz:gG) (xs:List D)
 deriving Inhabited
abbrev br:=List (List (Option Obj))
structure St where
 env:List AV
 sto:br
inductive VX where
 | tmp (t:Nat)
 | const (a:AV)
 | home (t:Nat)
inductive kP where
 | pure | frz | ref | bor
 deriving DecidableEq
inductive Conv where
 | int (k:IntKind)
 | str
 | bytesToStr
inductive lZ where
 | move (x:VX)
 | pick (c a b:VX)
 | alloc (cs:List AV)
 | box (x:VX)
 | build (zero:List AV) (parts:List (Nat×Nat×VX))
 | buildSlice (sz:gG) (agg:Bool) (zero:List AV) (len:Nat) (parts:List (Nat×VX))
 | buildRow (sz:gG) (agg:Bool) (zero:List AV) (len:Nat) (parts:List (Nat×VX))
 | buildO (sz:gG) (x:VX)
 | appendO (sz:gG) (bytes:Nat) (x y:VX)
 | vN (x:VX)
 | lendF (x:VX)
 | mx (isMax:Bool) (x y:VX)
 | capE (x:VX)
 | appendN (sz:gG) (bytes:Nat) (agg:Bool) (zero:List AV) (x n:VX)
 | bad
 | emptyRow
 | boxZ (x:VX)
 | appendE (sz:gG) (bytes:Nat) (x y:VX)
 | storeR (n:Nat) (a x:VX)
 | buildH (sz:gG) (off:Nat) (x:VX)
 | appendH (sz:gG) (bytes:Nat) (x y:VX)
 | load (agg:Bool) (n:Nat) (a:VX)
 | store (n:Nat) (a x:VX)
 | storeP (n:Nat) (a x:VX)
 | bin (G6:Bool) (op:BinOp) (x y:VX)
 | eqNil (ne:Bool) (x:VX)
 | neg (x:VX)
 | not (x:VX)
 | conv (c:Conv) (x:VX)
 | mkfn (f:FuncId) (cap:List VX)
 | makeSlice (sz:gG) (bytes:Nat) (agg:Bool) (zero:List AV) (l c:VX)
 | slice (isStr:Bool) (sz:gG) (x:VX) (lo hi mx:Option VX)
 | fieldAddr (off:Nat) (x:VX)
 | field (agg:Bool) (off n:Nat) (x:VX)
 | indexAddr (sz:gG) (x i:VX)
 | index (x i:VX)
 | indexArr (agg:Bool) (len n:Nat) (x i:VX)
 | extract (x:VX) (i:Nat)
 | len (Bh:Bool) (x:VX)
 | append (sz:gG) (bytes:Nat) (x y:VX)
 | copy (sz:gG) (x y:VX)
 | call (f:FuncId) (m:kP) (raw:Bool) (args:List VX)
 | callv (f:VX) (m:kP) (raw:Bool) (args:List VX)
 | callU (x:VX) (f:FuncId) (m:kP) (raw:Bool) (args:List VX)
structure a_ where
 dst:Option Nat
 guard:Option (Nat×Bool)
 op:lZ
inductive VC where
 | skip
 | reg (ops:List a_)
 | regL (ops:List a_) (x:VX)
 | regP (ops:List a_) (ps:List (Nat×Option Nat×Nat))
 | regD (perm:List Nat) (ops:List a_) (x:Option VX) (ps:List (Nat×Option Nat×Nat))
 | clone (x y c b m t dst:Nat) (sz:gG) (bytes:Nat) (agg:Bool) (zero:List AV)
 | seq (a b:VC)
 | cond (c:VX) (a b:VC)
 | block (id:Nat) (c:VC)
 | loop (prom:List (Nat×Option Nat×Nat×gG×Bool)) (liveE liveS:List Nat) (key:Nat)
 | exit (id:Nat)
 | ret
inductive Out where
 | norm | ret | exit (id:Nat)
structure bW where
 ret:AV
 pars:List (Option Obj)
 extra:List (Option Obj)
abbrev cM:=FuncId->List AV->List (Option Obj)->Option bW
abbrev cN:=Nat->St->Option (Out×St)
inductive aJ where
 | mk (call:FuncId->List AV->List (Option Obj)->Option bW) (loop:Nat->St->Option (Out×St)) (ar:BinOp->IntKind->Int->Int->Int) (wrap:IntKind->Int->Int) (plus:Int->Int->Int) (minus:Int->Int->Int) (cmp:BinOp->Int->Int->Bool) (isZero:Int->Bool) (gM:BinOp->ByteArray->ByteArray->Bool) (yT:ByteArray->ByteArray->ByteArray) (rJ:ByteArray->ByteArray->Bool) (sLen:ByteArray->Int) (yU:ByteArray->Int->Option Int) (I9:ByteArray->Int->Int->Option ByteArray) (bytesOf:ByteArray->List D) (ofBytes:List D->Option ByteArray) (len:List D->Int) (dD:List D->Int->Option D) (sub:List D->Int->Int->Option (List D)) (app:List D->List D->List D) (set:List D->Int->D->List D) (qz:Int->D->List D) (fits:Nat->Nat->List D->Bool) (fF:Nat->Int->Bool) (over:List D->List D->List D) (bS:List D->List D) (closed:List D->Bool) (flat:List D->Bool)
def aJ.call:aJ->FuncId->List AV->List (Option Obj)->Option bW
 | .mk x _ _ _ _ _ _ _ _ _ _ _ _ _ _ _ _ _ _ _ _ _ _ _ _ _ _ _=>x
def aJ.loop:aJ->Nat->St->Option (Out×St)
 | .mk _ x _ _ _ _ _ _ _ _ _ _ _ _ _ _ _ _ _ _ _ _ _ _ _ _ _ _=>x
def aJ.ar:aJ->BinOp->IntKind->Int->Int->Int
 | .mk _ _ x _ _ _ _ _ _ _ _ _ _ _ _ _ _ _ _ _ _ _ _ _ _ _ _ _=>x
def aJ.wrap:aJ->IntKind->Int->Int
 | .mk _ _ _ x _ _ _ _ _ _ _ _ _ _ _ _ _ _ _ _ _ _ _ _ _ _ _ _=>x
def aJ.plus:aJ->Int->Int->Int
 | .mk _ _ _ _ x _ _ _ _ _ _ _ _ _ _ _ _ _ _ _ _ _ _ _ _ _ _ _=>x
def aJ.minus:aJ->Int->Int->Int
 | .mk _ _ _ _ _ x _ _ _ _ _ _ _ _ _ _ _ _ _ _ _ _ _ _ _ _ _ _=>x
def aJ.cmp:aJ->BinOp->Int->Int->Bool
 | .mk _ _ _ _ _ _ x _ _ _ _ _ _ _ _ _ _ _ _ _ _ _ _ _ _ _ _ _=>x
def aJ.isZero:aJ->Int->Bool
 | .mk _ _ _ _ _ _ _ x _ _ _ _ _ _ _ _ _ _ _ _ _ _ _ _ _ _ _ _=>x
def aJ.gM:aJ->BinOp->ByteArray->ByteArray->Bool
 | .mk _ _ _ _ _ _ _ _ x _ _ _ _ _ _ _ _ _ _ _ _ _ _ _ _ _ _ _=>x
def aJ.yT:aJ->ByteArray->ByteArray->ByteArray
 | .mk _ _ _ _ _ _ _ _ _ x _ _ _ _ _ _ _ _ _ _ _ _ _ _ _ _ _ _=>x
def aJ.rJ:aJ->ByteArray->ByteArray->Bool
 | .mk _ _ _ _ _ _ _ _ _ _ x _ _ _ _ _ _ _ _ _ _ _ _ _ _ _ _ _=>x
def aJ.sLen:aJ->ByteArray->Int
 | .mk _ _ _ _ _ _ _ _ _ _ _ x _ _ _ _ _ _ _ _ _ _ _ _ _ _ _ _=>x
def aJ.yU:aJ->ByteArray->Int->Option Int
 | .mk _ _ _ _ _ _ _ _ _ _ _ _ x _ _ _ _ _ _ _ _ _ _ _ _ _ _ _=>x
def aJ.I9:aJ->ByteArray->Int->Int->Option ByteArray
 | .mk _ _ _ _ _ _ _ _ _ _ _ _ _ x _ _ _ _ _ _ _ _ _ _ _ _ _ _=>x
def aJ.bytesOf:aJ->ByteArray->List D
 | .mk _ _ _ _ _ _ _ _ _ _ _ _ _ _ x _ _ _ _ _ _ _ _ _ _ _ _ _=>x
def aJ.ofBytes:aJ->List D->Option ByteArray
 | .mk _ _ _ _ _ _ _ _ _ _ _ _ _ _ _ x _ _ _ _ _ _ _ _ _ _ _ _=>x
def aJ.len:aJ->List D->Int
 | .mk _ _ _ _ _ _ _ _ _ _ _ _ _ _ _ _ x _ _ _ _ _ _ _ _ _ _ _=>x
def aJ.dD:aJ->List D->Int->Option D
 | .mk _ _ _ _ _ _ _ _ _ _ _ _ _ _ _ _ _ x _ _ _ _ _ _ _ _ _ _=>x
def aJ.sub:aJ->List D->Int->Int->Option (List D)
 | .mk _ _ _ _ _ _ _ _ _ _ _ _ _ _ _ _ _ _ x _ _ _ _ _ _ _ _ _=>x
def aJ.app:aJ->List D->List D->List D
 | .mk _ _ _ _ _ _ _ _ _ _ _ _ _ _ _ _ _ _ _ x _ _ _ _ _ _ _ _=>x
def aJ.set:aJ->List D->Int->D->List D
 | .mk _ _ _ _ _ _ _ _ _ _ _ _ _ _ _ _ _ _ _ _ x _ _ _ _ _ _ _=>x
def aJ.qz:aJ->Int->D->List D
 | .mk _ _ _ _ _ _ _ _ _ _ _ _ _ _ _ _ _ _ _ _ _ x _ _ _ _ _ _=>x
def aJ.fits:aJ->Nat->Nat->List D->Bool
 | .mk _ _ _ _ _ _ _ _ _ _ _ _ _ _ _ _ _ _ _ _ _ _ x _ _ _ _ _=>x
def aJ.fF:aJ->Nat->Int->Bool
 | .mk _ _ _ _ _ _ _ _ _ _ _ _ _ _ _ _ _ _ _ _ _ _ _ x _ _ _ _=>x
def aJ.over:aJ->List D->List D->List D
 | .mk _ _ _ _ _ _ _ _ _ _ _ _ _ _ _ _ _ _ _ _ _ _ _ _ x _ _ _=>x
def aJ.bS:aJ->List D->List D
 | .mk _ _ _ _ _ _ _ _ _ _ _ _ _ _ _ _ _ _ _ _ _ _ _ _ _ x _ _=>x
def aJ.closed:aJ->List D->Bool
 | .mk _ _ _ _ _ _ _ _ _ _ _ _ _ _ _ _ _ _ _ _ _ _ _ _ _ _ x _=>x
def aJ.flat:aJ->List D->Bool
 | .mk _ _ _ _ _ _ _ _ _ _ _ _ _ _ _ _ _ _ _ _ _ _ _ _ _ _ _ x=>x
mutual
def AV.refs:AV->List Id
 | .agg cs=>AV.bE cs
 | .tup cs=>AV.bE cs
 | .ptr r _=>[r]
 | .prow r _ _ _=>[r]
 | .arr r _ _ _=>[r]
 | .fn _ cs=>AV.bE cs
 | _=>[]
def AV.bE:List AV->List Id
 | []=>[]
 | a::l=>a.refs++AV.bE l
end
mutual
def AV.map (f:Id->Id):AV->AV
 | .agg cs=> .agg (AV.nu f cs)
 | .tup cs=> .tup (AV.nu f cs)
 | .ptr r o=> .ptr (f r) o
 | .prow r s i o=> .prow (f r) s i o
 | .arr r s g u=> .arr (f r) s g u
 | .fn g cs=> .fn g (AV.nu f cs)
 | x=>x
def AV.nu (f:Id->Id):List AV->List AV
 | []=>[]
 | a::l=>a.map f::AV.nu f l
end
def Obj.refs:Obj->List Id
 | .box cs=>AV.bE cs
 | .hrows _ _ _ _ q _=>[q]
 | _=>[]
def Obj.map (f:Id->Id):Obj->Obj
 | .box cs=> .box (AV.nu f cs)
 | .hrows s xs i off q e=> .hrows s xs i off (f q) e
 | x=>x
def Obj.rw:Obj->Option (gG×List D)
 | .box _=>none
 | .rows s xs=>some (s,xs)
 | .orows s xs=>some (s,xs)
 | .hrows s xs _ _ _ _=>some (s,xs)
 | .gone s xs=>some (s,xs)
def Obj.rd:Obj->Option (gG×List D)
 | .rows s xs=>some (s,xs)
 | .orows s xs=>some (s,xs)
 | .hrows s xs _ _ _ _=>some (s,xs)
 | _=>none
def Obj.deep:Obj->Bool
 | .orows _ _=>true
 | .hrows _ _ _ _ _ _=>true
 | _=>false
def br.get (s:br) (r:Id):Option Obj:=
 match s[r.1]? with
 | some l=>match l[r.2]? with
  | some o=>o
  | none=>none
 | none=>none
def br.put (s:br) (r:Id) (o:Option Obj):br:=
 match s[r.1]? with
 | some l=>s.set r.1 (l.set r.2 o)
 | none=>s
def br.lay (s:br) (t:Nat) (l:List (Option Obj)):Option br:=
 match s[t]? with
 | some old=>if old.all (·.isNone)then some (s.set t l)else none
 | none=>none
mutual
def AV.forget (p:Id->Bool):AV->AV
 | .agg cs=> .agg (AV.aM p cs)
 | .tup cs=> .tup (AV.aM p cs)
 | .ptr r o=>if p r then .undef else .ptr r o
 | .prow r s i o=>if p r then .undef else .prow r s i o
 | .arr r s g u=>if p r then .undef else .arr r s g u
 | .fn g cs=> .fn g (AV.aM p cs)
 | x=>x
def AV.aM (p:Id->Bool):List AV->List AV
 | []=>[]
 | a::l=>a.forget p::AV.aM p l
end
def Obj.forget (p:Id->Bool):Obj->Obj
 | .box cs=> .box (AV.aM p cs)
 | .hrows s xs i off q e=>if p q then .gone s xs else .hrows s xs i off q e
 | x=>x
def br.forget (p:Id->Bool) (s:br):br:=s.map λl=>l.map λo=>o.map (·.forget p)
def St.kill (s:St) (r:Id):St:=⟨AV.aM (· ==r) s.env,(s.sto.put r none).forget (· ==r)⟩
def St.lay (s:St) (t:Nat) (l:List (Option Obj)):Option St:=
 match s.sto.lay t l with
 | some sto=>some ⟨s.env,sto⟩
 | none=>none
def D.many:D->Bool
 | .agg _=>true
 | _=>false
def D.cells:D->List D
 | .agg cs=>cs
 | x=>[x]
def D.bJ (agg:Bool) (cs:List D):Option D:=
 match agg,cs with
 | true,cs=>some (.agg cs)
 | false,[x]=>if x.many then none else some x
 | false,_=>none
def AV.bJ (agg:Bool) (cs:List AV):Option AV:=
 match agg,cs with
 | true,cs=>some (.agg cs)
 | false,[x]=>some x
 | false,_=>none
def AV.cells:AV->List AV
 | .agg cs=>cs
 | x=>[x]
def cut {α:Type} (l:List α) (off n:Nat):Option (List α):=
 if off+n<=l.length then some ((l.drop off).take n)else none
def lay {α:Type} (l:List α) (off:Nat) (v:List α):Option (List α):=
 if off+v.length<=l.length then some (l.take off++v++l.drop (off+v.length))else none
section
variable (o:aJ)
def content (s:br):AV->Option (List D)
 | .d (.lst xs)=>some xs
 | .emp=>some []
 | .arr r _ g _=>match s.get r with
  | some (.rows _ xs)=>match g with
   | none=>some xs
   | some (a,n)=>o.sub xs a n
  | _=>none
 | _=>none
def Gc (g:Option (Int×Int)) (xs:List D):Option (List D):=match g with
 | none=>some xs
 | some (a,n)=>o.sub xs a n
def eV (s:br):AV->Option (List D)
 | .arr r sz g u=>match s.get r with
  | some (.orows _ xs)=>Gc o g xs
  | some (.hrows _ xs _ _ _ _)=>Gc o g xs
  | _=>content o s (.arr r sz g u)
 | x=>content o s x
mutual
def fz (s:St):AV->Option (AV×St)
 | .emp=>some (.d (.lst []),s)
 | .arr r sz g u=>match s.sto.get r with
  | some (.orows _ xs)=>match g with
   | none=>some (.d (.lst (o.bS xs)),s.kill r)
   | some _=>none
  | _=>match content o s.sto (.arr r sz g u)with
   | some xs=>some (.d (.lst xs),s.kill r)
   | none=>none
 | .agg cs=>match yV s cs with
  | some (ds,s)=>some (.agg ds,s)
  | none=>none
 | .tup cs=>match yV s cs with
  | some (ds,s)=>some (.tup ds,s)
  | none=>none
 | x=>some (x,s)
def yV (s:St):List AV->Option (List AV×St)
 | []=>some ([],s)
 | a::l=>match fz s a with
  | some (x,s)=>match yV s l with
   | some (xs,s)=>some (x::xs,s)
   | none=>none
  | none=>none
end
mutual
def snap (s:br):AV->Option AV
 | .emp=>some (.d (.lst []))
 | .arr r sz g u=>match s.get r with
  | some (.orows _ xs)=>match g with
   | none=>some (.d (.lst (o.bS xs)))
   | some _=>none
  | _=>match content o s (.arr r sz g u)with
   | some xs=>some (.d (.lst xs))
   | none=>none
 | .agg cs=>match jh s cs with
  | some ds=>some (.agg ds)
  | none=>none
 | x=>some x
def jh (s:br):List AV->Option (List AV)
 | []=>some []
 | a::l=>match snap s a with
  | some x=>match jh s l with
   | some xs=>some (x::xs)
   | none=>none
  | none=>none
end
def dF:D->Bool
 | .own _ _=>false
 | .agg _=>false
 | _=>true
def j_ (
    s:St):AV->Option (D×St)
 | .d x=>match dF x with
  | true=>some (x,s)
  | false=>none
 | .emp=>some (.lst [],s)
 | .arr r sz none _=>match sz.2 with
  | 0=>none
  | _+1=>match s.sto.get r with
   | some (.orows _ ys)=>some (.own sz ys,s.kill r)
   | some (.rows _ ys)=>match o.flat ys with
    | true=>some (.own sz ys,s.kill r)
    | false=>none
   | _=>none
 | _=>none
def bQ (s:St):List AV->Option (List D×St)
 | []=>some ([],s)
 | a::l=>match j_ o s a with
  | some (x,s)=>match bQ s l with
   | some (xs,s)=>some (x::xs,s)
   | none=>none
  | none=>none
def qA (s:St) (sz:gG):AV->Option (List D×St)
 | .emp=>some ([],s)
 | .arr r sz' g u=>match j_ o s (.arr r sz' g u)with
  | some (.own sz1 xs,s)=>if sz1=sz then some (xs,s)else none
  | _=>none
 | _=>none
def scalar:AV->Bool
 | .d (.int _ _)=>true
 | .d (.bool _)=>true
 | .d (.str _)=>true
 | .tup []=>true
 | .bare=>true
 | _=>false
def dL:List AV->Option (List D)
 | []=>some []
 | .d x::l=>match dL l with
  | some xs=>some (x::xs)
  | none=>none
 | _=>none
def dZ:List AV->Option (List D)
 | []=>some []
 | .d x::l=>match dZ l with
  | some xs=>some (x::xs)
  | none=>none
 | .emp::l=>match dZ l with
  | some xs=>some (.lst []::xs)
  | none=>none
 | _=>none
def Gd:AV->Option D
 | .d x=>some x
 | .agg cs=>match dL cs with
  | some ds=>some (.agg ds)
  | none=>none
 | _=>none
def ev (env:List AV):VX->Option AV
 | .tmp t=>env[t]?
 | .const a=>some a
 | .home t=>match env[t]? with
  | some (.ptr r o)=>if r=(t,0)then some (.ptr r o)else none
  | _=>none
def wT (env:List AV):List VX->Option (List AV)
 | []=>some []
 | x::l=>match ev env x with
  | some a=>match wT env l with
   | some as=>some (a::as)
   | none=>none
  | none=>none
def Dc (env:List AV):Option VX->Option (Option AV)
 | none=>some none
 | some x=>match ev env x with
  | some a=>some (some a)
  | none=>none
def reach (s:br):Nat->List Id->List Id->Option (List Id)
 | _,[],acc=>some acc
 | 0,_::_,_=>none
 | n+1,r::todo,acc=>
  if acc.contains r then reach s n todo acc
  else match s.get r with
   | some ob=>reach s n (ob.refs++todo) (acc++[r])
   | none=>none
def idx (ids:List Id) (r:Id):Nat:=ids.findIdx (· ==r)
def fQ (s:br) (f:Id->Id):List Id->List (Option Obj)->Option br
 | [],[]=>some s
 | r::ids,ob::obs=>fQ (s.put r (ob.map (·.map f))) f ids obs
 | _,_=>none
def handed (m:kP) (as:List AV) (s:St):Option (List AV×St):=
 match m with
 | .ref=>some (as,s)
 | .frz=>yV o s as
 | _=>match jh o s.sto as with
  | some as=>some (as,s)
  | none=>none
def fX:List (Option Obj)->Bool
 | []=>true
 | some _::l=>fX l
 | none::_=>false
def St.buried (ids:List Id) (pars:List (Option Obj)) (s:St):St:=
 match fX pars with
 | true=>s
 | false=>⟨AV.aM (λr=>ids.contains r&&(s.sto.get r).isNone) s.env,s.sto.forget λr=>ids.contains r&&(s.sto.get r).isNone⟩
mutual
def eT:AV->Bool
 | .d (.int _ _)=>true
 | .d (.bool _)=>true
 | .d (.str _)=>true
 | .emp=>true
 | .arr _ _ _ _=>true
 | .agg cs=>mG cs
 | .tup cs=>mG cs
 | _=>false
def mG:List AV->Bool
 | []=>true
 | a::l=>match eT a with
  | true=>mG l
  | false=>false
end
def jv:List (Option Obj)->Bool
 | []=>true
 | some (.rows _ xs)::l=>match o.closed xs with
  | true=>jv l
  | false=>false
 | some (.orows _ xs)::l=>match o.closed xs with
  | true=>jv l
  | false=>false
 | _=>false
def cX (
    f:FuncId) (m:kP) (raw:Bool) (as:List AV) (dst:Option Nat) (s:St):Option (AV×St):=
 match m with
 | .bor=>
      match jh o s.sto as with
  | none=>none
  | some as=>
   match (AV.bE as).isEmpty with
   | false=>none
   | true=>match o.call f as []with
    | none=>none
    | some c=>match scalar c.ret with
     | true=>some (c.ret,s)
     | false=>match raw,dst,c.pars,eT c.ret,jv o c.extra with
      | true,some t,[],true,true=>match s.lay t (c.extra.map λob=>ob.map (·.map λr=>(t,r.2)))with
       | some s=>some (c.ret.map λr=>(t,r.2),s)
       | none=>none
      | _,_,_,_,_=>none
 | m=>
  match m != .pure || (AV.bE as).isEmpty with
  | false=>none
  | true=>
  match handed o m as s with
  | none=>none
  | some (
      as,
        s)=>
   match reach s.sto 60 (AV.bE as) []with
   | none=>none
   | some ids=>
    match o.call f (AV.nu (λr=>(1,idx ids r)) as) (ids.map λr=>(s.sto.get r).map (·.map λr=>(1,idx ids r)))with
    | none=>none
    | some c=>
     let back:Id->Id:=λr=>if r.1=1 then ids.getD r.2 (0,0)else (dst.getD 0,r.2)
     match fQ s.sto back ids c.pars with
     | none=>none
     | some sto=>
      match St.buried ids c.pars ⟨s.env,sto⟩with
      | s=>match c.extra with
       | []=>some (c.ret.map back,s)
       | e::ex=>match raw,dst with
        | true,some t=>match s.lay t ((e::ex).map λob=>ob.map (·.map back))with
         | some s=>some (c.ret.map back,s)
         | none=>none
        | _,_=>none
def bin (op:BinOp):AV->AV->Option AV
 | .d (.int k a),.d (.int k' b)=>
  match op with
  | .add | .sub | .mul | .and | .or | .xor=>if k=k' then some (.d (.int k (o.ar op k a b)))else none
  | .quo | .rem=>if k=k' then (match o.isZero b with | false=>some (.d (.int k (o.ar op k a b))) | true=>none)else none
  | .shl | .shr=>match o.cmp .lss b 0 with | false=>some (.d (.int k (o.ar op k a b))) | true=>none
  | .andNot=>none
  | _=>if k=k' then some (.d (.bool (o.cmp op a b)))else none
 | .d (.str a),.d (.str b)=>
  match op with
  | .add=>match o.rJ a b with | true=>some (.d (.str (o.yT a b))) | false=>none
  | .eql | .neq | .lss | .leq | .gtr | .geq=>some (.d (.bool (o.gM op a b)))
  | _=>none
 | .d (.bool a),.d (.bool b)=>
  match op with
  | .eql=>some (.d (.bool (a==b)))
  | .neq=>some (.d (.bool (a !=b)))
  | _=>none
 | _,_=>none
def br.rd (s:br) (r:Id):Option (gG×List D):=match s.get r with
 | some ob=>ob.rd
 | none=>none
def loadAt (
      s:br) (agg:Bool) (n:Nat):AV->Option AV
 | .ptr r off=>match s.get r with
  | some (.box cs)=>match cut cs off n with
   | some cs=>AV.bJ agg cs
   | none=>none
  | _=>none
 | .prow r sz i off=>match s.rd r with
  | some (
      sz',xs)=>if sz=sz' then match o.dD xs i with
    | some x=>if x.cells.length=sz.2 then match cut x.cells off n with
      | some cs=>AV.bJ agg (cs.map .d)
      | none=>none
     else none
    | none=>none
   else none
  | _=>none
 | .sp cs off=>match cut cs off n with
  | some cs=>AV.bJ agg (cs.map .d)
  | none=>none
 | _=>none
def AV.one:AV->Bool
 | .undef | .bare | .agg _ | .tup _=>false
 | _=>true
def storeAt (s:St) (n:Nat) (p x:AV):Option St:=
 let vs:=x.cells
 if vs.length≠n || !(vs.all AV.one)then none else
 match p with
 | .ptr r off=>match s.sto.get r with
   | some (.box cs)=>match lay cs off vs with
    | some cs=>some ⟨s.env,s.sto.put r (some (.box cs))⟩
    | none=>none
   | _=>none
 | .prow r sz i off=>match s.sto.get r with
  | some (.orows _ _)=>match bQ o s vs with
   | some (
       ds,s2)=>match s2.sto.get r with
    | some (.orows sz' xs)=>match o.dD xs i with
     | some (.agg cs)=>if sz=sz'/\cs.length=sz.2 then match lay cs off ds with
       | some cs'=>some ⟨s2.env,s2.sto.put r (some (.orows sz (o.set xs i (.agg cs'))))⟩
       | none=>none
      else none
     | _=>none
    | _=>none
   | none=>none
  | _=>
      match yV o s vs with
   | some (
       vs,
         s)=>match dL vs with
    | some ds=>match s.sto.get r with
     | some (
         .rows sz' xs)=>if sz=sz' then match o.dD xs i with
       | some e=>if e.cells.length=sz.2 then match lay e.cells off ds with
         | some cs=>match D.bJ e.many cs with
          | some e'=>some ⟨s.env,s.sto.put r (some (.rows sz (o.set xs i e')))⟩
          | none=>none
         | none=>none
        else none
       | none=>none
      else none
     | _=>none
    | none=>none
   | none=>none
 | _=>none
def vK {α:Type} (cells:List α):List (Nat×List α)->Option (List α)
 | []=>some cells
 | (off,vs)::l=>match lay cells off vs with
  | some c=>vK c l
  | none=>none
def AV.whole:AV->Bool
 | .undef | .bare | .tup _=>false
 | _=>true
def jw (
    env:List AV):List (Nat×Nat×VX)->Option (List (Nat×List AV))
 | []=>some []
 | (off,n,x)::l=>match ev env x with
  | some a=>match a.whole,a.cells.length==n with
   | true,true=>match jw env l with
    | some ps=>some ((off,a.cells)::ps)
    | none=>none
   | _,_=>none
  | none=>none
def dW (env:List AV):List (Nat×VX)->Option (List (Nat×AV))
 | []=>some []
 | (i,x)::l=>match ev env x with
  | some a=>match dW env l with
   | some ps=>some ((i,a)::ps)
   | none=>none
  | none=>none
def p_:List AV->Option (List D)
 | []=>some []
 | a::l=>match Gd a with
  | some x=>match p_ l with
   | some xs=>some (x::xs)
   | none=>none
  | none=>none
def kQ (sz:Nat) (xs:List D):List (Nat×D)->Option (List D)
 | []=>some xs
 | (i,x)::l=>if i<xs.length&&x.cells.length==sz then kQ sz (xs.set i x) l else none
def asInt:AV->Option Int
 | .d (.int _ n)=>some n
 | _=>none
def kR:Option AV->Option (Option Int)
 | none=>some none
 | some a=>match asInt a with
  | some n=>some (some n)
  | none=>none
def sliceAt (s:br) (sz:gG) (x:AV) (lo hi mx:Option Int):Option AV:=
 match mx with
 | some m=>match content o s x,lo,hi with
  | some _,none,some h=>match o.isZero h,o.isZero m with
   | true,true=>some .emp
   | _,_=>none
  | _,_,_=>none
 | none=>match x with
  | .emp=>match lo,hi with
   | none,none=>some .emp
   | _,_=>match o.isZero (lo.getD 0),o.isZero (hi.getD 0)with
    | true,true=>some .emp
    | _,_=>none
  | .d (.lst xs)=>match (match lo with | none=>true | some _=>o.fits sz.2 0 xs)with
   | true=>match o.sub xs (lo.getD 0) (o.minus (hi.getD (o.len xs)) (lo.getD 0))with
    | some ys=>some (.d (.lst ys))
    | none=>none
   | false=>none
  | .arr r sz' g u=>match eV o s (.arr r sz' g u)with
   | none=>none
   | some xs=>match lo,hi with
    | none,none=>some (.arr r sz' g u)
    | _,_=>if sz=sz' then match o.sub xs (lo.getD 0) (o.minus (hi.getD (o.len xs)) (lo.getD 0))with
     | some _=>some (.arr r sz (some (match g with | none=>lo.getD 0 | some (a,_)=>o.plus a (lo.getD 0),o.minus (hi.getD (o.len xs)) (lo.getD 0))) false)
     | none=>none
     else none
  | _=>none
def AV.G6:AV->Bool
 | .d (.bool _)=>true
 | _=>false
def AV.Bh:AV->Bool
 | .d (.str _)=>true
 | _=>false
def evalOp (
      env:List AV) (s:br):lZ->Option (AV×List (Option Obj))
 | .move x=>match ev env x with | some a=>some (a,[]) | none=>none
 | .pick c a b=>match ev env c,ev env a,ev env b with
  | some (.d (.bool t)),some x,some y=>match t with | true=>some (x,[]) | false=>some (y,[])
  | _,_,_=>none
 | .bin G6 op x y=>match ev env x,ev env y with
  | some a,some b=>match a.G6==G6 with
   | true=>match bin o op a b with | some v=>some (v,[]) | none=>none
   | false=>none
  | _,_=>none
 | .eqNil ne x=>match ev env x with
  | some .nilp=>some (.d (.bool (!ne)),[])
  | some (.ptr _ _)=>some (.d (.bool ne),[])
  | some (.prow _ _ _ _)=>some (.d (.bool ne),[])
  | some (.sp _ _)=>some (.d (.bool ne),[])
  | _=>none
 | .neg x=>match ev env x with | some (.d (.int k n))=>some (.d (.int k (o.ar .sub k 0 n)),[]) | _=>none
 | .not x=>match ev env x with | some (.d (.bool b))=>some (.d (.bool (!b)),[]) | _=>none
 | .conv c x=>match ev env x with
  | some a=>match c,a with
   | .int k,.d (.int _ n)=>some (.d (.int k (o.wrap k n)),[])
   | .str,.d (.str t)=>some (.d (.str t),[])
   | .bytesToStr,a=>match content o s a with
    | some xs=>match o.ofBytes xs with | some t=>some (.d (.str t),[]) | none=>none
    | none=>none
   | _,_=>none
  | none=>none
 | .emptyRow=>some (.emp,[])
 | .mkfn f cap=>match wT env cap with | some as=>some (.fn f as,[]) | none=>none
 | .fieldAddr off x=>match ev env x with
  | some (.ptr r i)=>some (.ptr r (i+off),[])
  | some (.prow r sz i n)=>some (.prow r sz i (n+off),[])
  | some (.sp cs i)=>some (.sp cs (i+off),[])
  | _=>none
 | .field agg off n x=>match ev env x with
  | some (.agg cs)=>match cut cs off n with
   | some cs=>match AV.bJ agg cs with | some v=>some (v,[]) | none=>none
   | none=>none
  | _=>none
 | .indexAddr sz x i=>match ev env x,ev env i with
  | some (.d (.lst xs)),some (.d (.int _ n))=>match o.dD xs n with
   | some e=>if e.cells.length=sz.2 then some (.sp e.cells 0,[])else none
   | none=>none
  | some (.arr r sz' g u),some (.d (.int _ n))=>match eV o s (.arr r sz' g u)with
   | some xs=>match o.dD xs n with
    | some _=>if sz=sz' then some (.prow r sz (match g with | none=>n | some (a,_)=>o.plus a n) 0,[])else none
    | none=>none
   | none=>none
  | _,_=>none
 | .index x i=>match ev env x,ev env i with
  | some (.d (.str t)),some (.d (.int _ n))=>match o.yU t n with | some b=>some (.d (.int .u8 b),[]) | none=>none
  | _,_=>none
 | .indexArr agg len n x i=>match ev env x,ev env i with
  | some (.agg cs),some (.d (.int _ k))=>if 0<=k/\k<len then match cut cs (k.toNat*n) n with
    | some cs=>match AV.bJ agg cs with | some v=>some (v,[]) | none=>none
    | none=>none
   else none
  | _,_=>none
 | .extract x i=>match ev env x with
  | some (.tup vs)=>match vs[i]? with | some v=>some (v,[]) | none=>none
  | _=>none
 | .len Bh x=>match ev env x with
  | some a=>match a.Bh==Bh with
   | false=>none
   | true=>match a with
    | .d (.str t)=>some (.d (.int .i64 (o.sLen t)),[])
    | .d (.lst xs)=>some (.d (.int .i64 (o.len xs)),[])
    | .emp=>some (.d (.int .i64 0),[])
    | .arr r sz g u=>match g with
     | some (_,n)=>some (.d (.int .i64 n),[])
     | none=>match eV o s (.arr r sz g u)with | some xs=>some (.d (.int .i64 (o.len xs)),[]) | none=>none
    | _=>none
  | none=>none
 | .slice isStr sz x lo hi mx=>match ev env x,Dc env lo,Dc env hi,Dc env mx with
  | some x,some lo,some hi,some mx=>match kR lo,kR hi,kR mx with
   | some lo,some hi,some mx=>match isStr,x with
    | true,.d (.str t)=>match mx with
     | none=>match o.I9 t (lo.getD 0) (hi.getD (o.sLen t))with | some u=>some (.d (.str u),[]) | none=>none
     | some _=>none
    | false,x=>match sliceAt o s sz x lo hi mx with | some v=>some (v,[]) | none=>none
    | _,_=>none
   | _,_,_=>none
  | _,_,_,_=>none
 | .load agg n a=>match ev env a with
  | some p=>match loadAt o s agg n p with | some v=>some (v,[]) | none=>none
  | none=>none
 | .alloc cs=>some (.ptr (0,0) 0,[some (.box cs)])
 | .box x=>match ev env x with
  | some a=>match a with
   | .tup _ | .undef | .bare=>none
   | a=>some (.ptr (0,0) 0,[some (.box a.cells)])
  | none=>none
 | .build zero parts=>match jw env parts with
  | some ps=>match vK zero ps with | some cs=>some (.agg cs,[]) | none=>none
  | none=>none
 | .makeSlice sz bytes agg zero l c=>match ev env l,ev env c with
  | some (
      .d (.int _ l)),some (.d (.int _ c))=>
   if zero.length=sz.2 then
    match dZ zero with
    | some ds=>match D.bJ agg ds with
     | some z=>match o.cmp .eql l c,o.fF bytes c with
      | true,true=>some (.arr (0,0) sz none true,[some (.rows sz (o.qz c z))])
      | _,_=>none
     | none=>none
    | none=>none
   else none
  | _,_=>none
 | _=>none
def Ge:Option (Int×Int)->Bool
 | none=>true
 | some (a,_)=>o.isZero a
def ia (
    r:Id) (s:St):Option St:=match s.sto.get r with
 | some (
     .hrows sz xs i off q esz)=>match s.sto.get q,o.dD xs i with
  | some (.orows esz' ys),some (.agg cs)=>if esz=esz' then match lay cs off [.own esz ys]with
    | some cs'=>some ((⟨s.env,s.sto.put r (some (.orows sz (o.set xs i (.agg cs'))))⟩:St).kill q)
    | none=>none
   else none
  | some (.rows esz' ys),some (.agg cs)=>match o.flat ys with
   | true=>if esz=esz' then match lay cs off [.own esz ys]with
     | some cs'=>some ((⟨s.env,s.sto.put r (some (.orows sz (o.set xs i (.agg cs'))))⟩:St).kill q)
     | none=>none
    else none
   | false=>none
  | _,_=>none
 | _=>some s
def jP (x:VX) (s:St):Option St:=match ev s.env x with
 | some (.prow r _ _ _)=>ia o r s
 | _=>none
def sV (
    s:St) (dst:Option Nat) (sz:gG) (bytes:Nat) (x y:VX):Option (AV×St):=match ev s.env x,ev s.env y,dst with
 | some a,
      some b,some t=>match qA o s sz a with
  | some (
      xs,s)=>match j_ o s b with
   | some (.own sz2 (y::ys),s)=>if sz2=sz then match o.fits sz.2 bytes (o.app xs (y::ys))with
     | true=>match s.lay t [some (.orows sz (o.app xs (y::ys)))]with
      | some s=>some (.arr (t,0) sz none false,s)
      | none=>none
     | false=>none
    else none
   | _=>none
  | none=>none
 | _,_,_=>none
def BL (s:br) (cs:List AV) (off:Nat):Option (List D×Id×gG):=match cs[off]? with
 | some (.arr q esz none _)=>match dL (cs.set off (.d (.int .i64 0)))with
  | some ds=>match esz.2,ds.all dF,s.get q with
   | _+1,true,some (.rows _ _)=>some (ds.set off (.own esz []),q,esz)
   | _+1,true,some (.orows _ _)=>some (ds.set off (.own esz []),q,esz)
   | _,_,_=>none
  | none=>none
 | _=>none
def aI (
    s:St) (dst:Option Nat):lZ->Option (AV×St)
 | .store n a x=>match ev s.env a,ev s.env x with
  | some p,some v=>match storeAt o s n p v with | some s=>some (.bare,s) | none=>none
  | _,_=>none
 | .buildO sz x=>match ev s.env x,dst with
  | some (.agg cs),some t=>match bQ o s cs with
   | some (ds,s)=>if ds.length=sz.2 then match s.lay t [some (.orows sz [.agg ds])]with
     | some s=>some (.arr (t,0) sz none true,s)
     | none=>none
    else none
   | none=>none
  | _,_=>none
 | .appendO sz bytes x y=>sV o s dst sz bytes x y
 | .vN x=>match ev s.env x with
  | some (
      .prow r sz i off)=>match s.sto.get r with
   | some (
       .orows sz' xs)=>match o.dD xs i with
    | some (
        .agg cs)=>match cut cs off 1 with
     | some [.own esz ys]=>match esz.2,dst with
      | _+1,some t=>if sz=sz'/\cs.length=sz.2 then match (⟨s.env,s.sto.put r (some (.hrows sz xs i off (t,0) esz))⟩:St).lay t [some (.orows esz ys)]with
        | some s=>some (.arr (t,0) esz none false,s)
        | none=>none
       else none
      | _,_=>none
     | _=>match loadAt o s.sto false 1 (.prow r sz i off)with | some v=>some (v,s) | none=>none
    | _=>none
   | _=>none
  | _=>none
 | .lendF x=>
        match ev s.env x with
  | some (
      .prow r sz i off)=>match s.sto.get r with
   | some (
       .orows sz' xs)=>match o.dD xs i with
    | some (
        .agg cs)=>match cut cs off 1 with
     | some [.own esz ys]=>match esz.2,dst,o.flat ys with
      | _+1,some t,true=>if sz=sz'/\cs.length=sz.2 then match (⟨s.env,s.sto.put r (some (.hrows sz xs i off (t,0) esz))⟩:St).lay t [some (.rows esz ys)]with
        | some s=>some (.arr (t,0) esz none false,s)
        | none=>none
       else none
      | _,_,_=>none
     | _=>none
    | _=>none
   | _=>none
  | _=>none
 | .appendE sz bytes x y=>match ev s.env x,ev s.env y,dst with
  | some .emp,some b,some t=>match content o s.sto b with
   | none=>none
   | some ys=>match o.fits sz.2 bytes ys with
    | true=>match s.lay t [some (.rows sz ys)]with
     | some s=>some (.arr (t,0) sz none false,s)
     | none=>none
    | false=>none
  | _,_,_=>none
 | .storeR n a x=>match ev s.env a,ev s.env x with
  | some (
      .prow r sz i off),some v=>match dL v.cells with
   | some ds=>if ds.length≠n then none else
    match s.sto.get r with
    | some (
        .rows sz' xs)=>if sz=sz' then match o.dD xs i with
      | some e=>if e.cells.length=sz.2 then match lay e.cells off ds with
        | some cs=>match D.bJ e.many cs with
         | some e'=>some (.bare,⟨s.env,s.sto.put r (some (.rows sz (o.set xs i e')))⟩)
         | none=>none
        | none=>none
       else none
      | none=>none
     else none
    | _=>none
   | none=>none
  | _,_=>none
 | .buildH sz off x=>match ev s.env x,dst with
  | some (.agg cs),some t=>match BL s.sto cs off with
   | some (ds,q,esz)=>if ds.length=sz.2 then match s.lay t [some (.hrows sz [.agg ds] 0 off q esz)]with
     | some s=>some (.arr (t,0) sz none true,s)
     | none=>none
    else none
   | none=>none
  | _,_=>none
 | .appendH sz bytes x y=>match ev s.env y with
  | some (.arr r _ none _)=>match ia o r s with
   | some s=>sV o s dst sz bytes x y
   | none=>none
  | _=>none
 | .mx isMax x y=>match ev s.env x,ev s.env y with
  | some (.d (.int k a)),some (.d (.int k' b))=>if k=k' then match o.cmp .lss a b with
    | true=>match isMax with
     | true=>some (.d (.int k b),s)
     | false=>some (.d (.int k a),s)
    | false=>match isMax with
     | true=>some (.d (.int k a),s)
     | false=>some (.d (.int k b),s)
   else none
  | _,_=>none
 | .boxZ x=>match ev s.env x with
  | some a=>match dL a.cells with
   | some ds=>some (.sp ds 0,s)
   | none=>none
  | none=>none
 | .capE x=>match ev s.env x with
  | some .emp=>some (.d (.int .i64 0),s)
  | _=>none
 | .appendN sz bytes agg zero x n=>match ev s.env x,ev s.env n,dst with
  | some .emp,some (.d (.int _ n)),some t=>
   if zero.length=sz.2 then
    match dZ zero with
    | some ds=>match D.bJ agg ds with
     | some z=>match o.cmp .gtr n 0,o.fF bytes n with
      | true,true=>match s.lay t [some (.rows sz (o.qz n z))]with
       | some s=>some (.arr (t,0) sz none false,s)
       | none=>none
      | _,_=>none
     | none=>none
    | none=>none
   else none
  | _,_,_=>none
 | .callU x f m raw args=>match jP o x s with
  | some s=>match wT s.env args with
   | some as=>cX o f m raw as dst s
   | none=>none
  | none=>none
 | .storeP n a x=>match ev s.env a,ev s.env x with
  | some (.ptr r off),some v=>match storeAt o s n (.ptr r off) v with | some s=>some (.bare,s) | none=>none
  | _,_=>none
 | .call f m raw args=>match wT s.env args with
  | some as=>cX o f m raw as dst s
  | none=>none
 | .callv f m raw args=>match ev s.env f,wT s.env args with
  | some (.fn g cap),some as=>cX o g m raw (as++cap) dst s
  | _,_=>none
 | .append sz bytes x y=>match ev s.env x,ev s.env y,dst with
  | some a,
       some b,some t=>match content o s.sto b with
   | none=>none
   | some ys=>match a with
    | .emp=>match o.fits sz.2 bytes ys with
      | true=>match s.lay t [some (.rows sz ys)]with
       | some s=>some (.arr (t,0) sz none false,s)
       | none=>none
      | false=>none
    | .arr r sz' g u=>match content o s.sto (.arr r sz' g u)with
     | some xs=>if sz=sz'&&Ge o g then
       match o.fits sz.2 bytes (o.app xs ys)with
       | true=>match (s.kill r).lay t [some (.rows sz (o.app xs ys))]with
        | some s=>some (.arr (t,0) sz none false,s)
        | none=>none
       | false=>none
      else none
     | none=>none
    | _=>none
  | _,_,_=>none
 | .copy sz x y=>match ev s.env x,ev s.env y with
  | some (.arr r sz' none _),some b=>match content o s.sto b,s.sto.get r with
   | some ys,some (.rows _ xs)=>if sz=sz' then match o.fits sz.2 0 ys with
     | true=>some (.undef,⟨s.env,s.sto.put r (some (.rows sz (o.over xs ys)))⟩)
     | false=>none
    else none
   | _,_=>none
  | _,_=>none
 | .buildSlice sz agg zero len parts=>match dW s.env parts,dst with
  | some ps,some t=>
   if zero.length=sz.2 then
    match dZ zero with
    | some ds=>match D.bJ agg ds with
     | some z=>match yV o s (ps.map (·.2))with
      | some (as,s)=>match p_ as with
       | some xs=>match kQ sz.2 (List.replicate len z) ((ps.map (·.1)).zip xs)with
        | some []=>some (.emp,s)
        | some (x::xs)=>match s.lay t [some (.rows sz (x::xs))]with
         | some s=>some (.arr (t,0) sz none true,s)
         | none=>none
        | none=>none
       | none=>none
      | none=>none
     | none=>none
    | none=>none
   else none
  | _,_=>none
 | .buildRow sz agg zero len parts=>match dW s.env parts,dst with
  | some ps,some t=>
   if zero.length=sz.2 then
    match dZ zero with
    | some ds=>match D.bJ agg ds with
     | some z=>match p_ (ps.map (·.2))with
      | some xs=>match kQ sz.2 (List.replicate len z) ((ps.map (·.1)).zip xs)with
       | some []=>some (.emp,s)
       | some (x::xs)=>match s.lay t [some (.rows sz (x::xs))]with
        | some s=>some (.arr (t,0) sz none true,s)
        | none=>none
       | none=>none
      | none=>none
     | none=>none
    | none=>none
   else none
  | _,_=>none
 | op=>match evalOp o s.env s.sto op with
  | some (v,[])=>some (v,s)
  | some (v,e::new)=>match dst with
   | some t=>match s.lay t (e::new)with
    | some s=>some (v.map λr=>if r=(0,0)then (t,0)else r,s)
    | none=>none
   | none=>none
  | none=>none
def dR (env:List AV) (dst:Option Nat) (v:AV):List AV:=
 match dst with
 | some t=>env.set t v
 | none=>env
def wanted (env:List AV):Option (Nat×Bool)->Option Bool
 | none=>some true
 | some (t,w)=>match env[t]? with
  | some (.d (.bool b))=>some (match w with | true=>b | false=> !b)
  | some .bare=>some false
  | _=>none
def aY:List a_->St->Option St
 | [],s=>some s
 | x::l,s=>match wanted s.env x.guard with
  | some true=>match aI o s x.dst x.op with
   | some (v,s)=>aY l ⟨dR s.env x.dst v,s.sto⟩
   | none=>none
  | some false=>aY l ⟨dR s.env x.dst .bare,s.sto⟩
  | none=>none
def rK (live:List Nat):Nat->List AV->List AV
 | _,[]=>[]
 | n,a::l=>(if live.contains n then a else .undef)::rK live (n+1) l
def tR (live:List Nat):Nat->br->br
 | _,[]=>[]
 | n,a::l=>(if live.contains n then a else [])::tR live (n+1) l
def mask (liveE liveS:List Nat) (s:St):St:=
 ⟨AV.aM (λr=> !liveS.contains r.1) (rK liveE 0 s.env),(tR liveS 0 s.sto).forget λr=> !liveS.contains r.1⟩
def rowOf (own:Bool) (sz:gG) (xs:List D):Obj:=match own with
 | true=> .orows sz xs
 | false=> .rows sz xs
def dG:List (Nat×Option Nat×Nat×gG×Bool)->St->Option St
 | [],s=>some s
 | (t,
    none,slot,sz,own)::l,s=>match s.env[t]? with
  | some .emp=>match s.lay slot [some (rowOf own sz [])]with
   | some s=>dG l ⟨s.env.set t (.arr (slot,0) sz none false),s.sto⟩
   | none=>none
  | some (.arr r _ _ _)=>match own with
   | true=>match s.sto.get r with
    | some (.rows sz' xs)=>match o.flat xs with
     | true=>dG l ⟨s.env,s.sto.put r (some (.orows sz' xs))⟩
     | false=>none
    | _=>dG l s
   | false=>dG l s
  | _=>dG l s
 | (t,
    some c,slot,sz,own)::l,s=>match s.env[t]? with
  | some (
      .ptr r b)=>match s.sto.get r with
   | some (
       .box cs)=>match cs[b+c]? with
    | some .emp=>match s.lay slot [some (rowOf own sz [])]with
     | some s=>dG l ⟨s.env,s.sto.put r (some (.box (cs.set (b+c) (.arr (slot,0) sz none false))))⟩
     | none=>none
    | some (.arr q _ _ _)=>match own with
     | true=>match s.sto.get q with
      | some (.rows sz' xs)=>match o.flat xs with
       | true=>dG l ⟨s.env,s.sto.put q (some (.orows sz' xs))⟩
       | false=>none
      | _=>dG l s
     | false=>dG l s
    | _=>dG l s
   | _=>none
  | _=>none
def rL (g:Option (Int×Int)) (xs:List D):Option (List D):=match g with
 | none=>some xs
 | some (a,n)=>match o.isZero a with
  | true=>o.sub xs a n
  | false=>none
def yX (r:Id) (k:Nat) (q:Id) (slot:Nat) (sz:gG) (ob:Obj) (s:St):Option St:=match (s.kill q).lay slot [some ob]with
 | some s=>match s.sto.get r with
  | some (.box cs)=>some ⟨s.env,s.sto.put r (some (.box (cs.set k (.arr (slot,0) sz none false))))⟩
  | _=>none
 | none=>none
def Dd (t:Nat) (q:Id) (slot:Nat) (sz:gG) (ob:Obj) (s:St):Option St:=match (s.kill q).lay slot [some ob]with
 | some s=>some ⟨s.env.set t (.arr (slot,0) sz none false),s.sto⟩
 | none=>none
def Ak:Nat->Option Nat->Nat->St->Option St
 | t,some c,slot,s=>match s.env[t]? with
  | some (
      .ptr r b)=>match s.sto.get r with
   | some (.box cs)=>match cs[b+c]? with
    | some (.arr q sz g _)=>match s.sto.get q with
     | some (.rows _ xs)=>match rL o g xs with
      | some ys=>yX r (b+c) q slot sz (.rows sz ys) s
      | none=>none
     | some (.orows _ xs)=>match rL o g xs with
      | some ys=>yX r (b+c) q slot sz (.orows sz ys) s
      | none=>none
     | _=>none
    | _=>some s
   | _=>none
  | _=>none
 | t,none,0,s=>match s.env[t]? with
  | some (.arr q sz g u)=>match fz o s (.arr q sz g u)with
   | some (.d x,s)=>some ⟨s.env.set t (.d x),s.sto⟩
   | _=>none
  | _=>some s
 | t,none,slot+1,s=>match s.env[t]? with
  | some (.arr q sz g _)=>match s.sto.get q with
   | some (.rows _ xs)=>match rL o g xs with
    | some ys=>Dd t q (slot+1) sz (.rows sz ys) s
    | none=>none
   | some (.orows _ xs)=>match rL o g xs with
    | some ys=>Dd t q (slot+1) sz (.orows sz ys) s
    | none=>none
   | _=>none
  | _=>some s
def homes:List (Nat×Option Nat×Nat)->St->Option St
 | [],s=>some s
 | (t,c,slot)::l,s=>match Ak o t c slot s with
  | some s=>homes l s
  | none=>none
def exec:VC->St->Option (Out×St)
 | .skip,s=>some (.norm,s)
 | .reg ops,s=>match aY o ops s with
  | some s=>some (.norm,s)
  | none=>none
 | .regL ops x,s=>match aY o ops s with
  | some s=>match jP o x s with
   | some s=>some (.norm,s)
   | none=>none
  | none=>none
 | .regD _ ops x ps,s=>match aY o ops s with
  | some s=>match (match x with | some x=>jP o x s | none=>some s)with
   | some s=>match homes o ps s with
    | some s=>some (.norm,s)
    | none=>none
   | none=>none
  | none=>none
 | .regP ops ps,s=>match aY o ops s with
  | some s=>match homes o ps s with
   | some s=>some (.norm,s)
   | none=>none
  | none=>none
 | .clone x y c b m t dst sz bytes _ _,s=>match s.env[x]? with
  | some a=>
        match a with
   | .d (
      .lst _) | .arr _ _ _ _=>match content o s.sto a with
    | some xs=>match o.fits sz.2 bytes xs with
     | true=>match s.lay t [some (.rows sz xs)]with
      | some s=>if y<s.env.length/\c<s.env.length/\b<s.env.length/\m<s.env.length/\t<s.env.length/\dst<s.env.length then
        some (.ret,⟨((((((s.env.set y .undef).set c .undef).set b .undef).set m .undef).set t .undef).set dst (.arr (t,0) sz none false)),s.sto⟩)
       else none
      | none=>none
     | false=>none
    | none=>none
   | _=>none
  | none=>none
 | .seq a b,s=>match exec a s with
  | some (.norm,s)=>exec b s
  | r=>r
 | .cond c a b,s=>match ev s.env c with
  | some (.d (.bool t))=>match t with
   | true=>exec a s
   | false=>exec b s
  | _=>none
 | .block id c,s=>match exec c s with
  | some (.exit k,s)=>if k=id then some (.norm,s)else some (.exit k,s)
  | r=>r
 | .loop prom le ls key,s=>match dG o prom s with
  | some s=>o.loop key (mask le ls s)
  | none=>none
 | .exit id,s=>some (.exit id,s)
 | .ret,s=>some (.ret,s)
structure VL where
 liveE:List Nat
 liveS:List Nat
 outE:List Nat
 outS:List Nat
 body:VC
def tT (T:Nat->Option VL) (key:Nat) (s:St):Option (Out×St):=
 match T key with
 | none=>none
 | some l=>match exec o l.body s with
  | some (.norm,s)=>o.loop key (mask l.liveE l.liveS s)
  | some (out,s)=>some (out,mask l.outE l.outS s)
  | none=>none
structure VF where
 ntmps:Nat
 nargs:Nat
 results:List (Sum Nat (Nat×Bool×Nat))
 body:VC
def kS (s:St):List (Sum Nat (Nat×Bool×Nat))->Option (List AV)
 | []=>some []
 | .inl t::l=>match s.env[t]?,kS s l with
  | some a,some as=>some (a::as)
  | _,_=>none
 | .inr (t,agg,n)::l=>match s.env[t]? with
  | some p=>match loadAt o s.sto agg n p,kS s l with
   | some a,some as=>some (a::as)
   | _,_=>none
  | none=>none
def oO (raw:Bool) (v:AV) (s:St):Option (AV×St):=match raw with
 | true=>some (v,s)
 | false=>fz o s v
def Gf:List AV->AV
 | [x]=>x
 | rs=> .tup rs
def tU (
    F:FuncId->Option (VF×Bool)) (f:FuncId) (as:List AV) (cs:List (Option Obj)):Option bW:=
 match F f with
 | none=>none
 | some (
     fn,
       raw)=>
  if as.length≠fn.nargs then none else
  let inn:Id->Id:=λr=>(fn.ntmps+r.2,0)
  let s0:St:=⟨AV.nu inn as++List.replicate (fn.ntmps-fn.nargs) .bare,
   List.replicate fn.ntmps []++cs.map λob=>[ob.map (·.map inn)]⟩
  match exec o fn.body s0 with
  | some (.exit _,_) | none=>none
  | some (
      _,s)=>
   match kS o s fn.results with
   | none=>none
   | some rs=>
    match oO o raw (Gf rs) s with
    | none=>none
    | some (v,s)=>
     let sto:=s.sto
     let pars:=(List.range cs.length).map λi=>sto.get (fn.ntmps+i,0)
     let roots:=v.refs++pars.flatMap fun | some ob=>ob.refs | none=>[]
     match reach sto 60 (roots.filter λr=>r.1<fn.ntmps) []with
     | none=>none
     | some ids=>
      match (ids.all λr=>r.1<fn.ntmps)&&v.refs.all λr=>(sto.get r).isSome with
      | false=>none
      | true=>
       let out:Id->Id:=λr=>if r.1<fn.ntmps then (0,idx ids r)else (1,r.1-fn.ntmps)
       some ⟨v.map out,pars.map λob=>ob.map (·.map out),(ids.map λr=>(sto.get r).map (·.map out))⟩
end
end Go.Vi
