import GoSem.Core.Code
set_option linter.all false
namespace Go.Vi
theorem ax {α:Type} {l:List α} {i:Nat} {a:α}:l[i]? =some a↔∃h:i<l.length,l[i]=a:=List.getElem?_eq_some_iff
theorem bA {α:Type} {l:List α} {i:Nat} (h:i<l.length):l[i]? =some l[i]:=List.getElem?_eq_getElem h
theorem af (a b:Bool):((a&&b)=true)=(a=true/\b=true):=Bool.and_eq_true a b
def zh (f:FuncId):FuncId:=f%100000
inductive D where
 | int (k:IntKind) (n:Int)
 | bool (b:Bool)
 | str (s:ByteArray)
 | lst (xs:List D)
 | agg (cs:List D)
 | own (sz:Nat×Nat) (xs:List D)
 deriving Inhabited
abbrev Id:=Nat×Nat
abbrev gJ:=Nat×Nat
inductive AV where
 | undef
 | bare
 | d (x:D)
 | agg (cs:List AV)
 | tup (vs:List AV)
 | nilp
 | emp
 | ptr (r:Id) (off:Nat)
 | prow (r:Id) (sz:gJ) (i:Int) (off:Nat)
 | sp (cs:List D) (off:Nat)
 | arr (r:Id) (sz:gJ) (rng:Option (Int×Int)) (full:Bool)
 | fn (f:FuncId) (cap:List AV)
 deriving Inhabited
inductive Obj where
 | box (cs:List AV)
 | rows (sz:gJ) (xs:List D)
 | orows (sz:gJ) (xs:List D)
 | hrows (sz:gJ) (xs:List D) (i:Int) (off:Nat) (q:Id) (esz:gJ)
 | gone (sz:gJ) (xs:List D)
 deriving Inhabited
abbrev bC:=List (List (Option Obj))
structure St where
 env:List AV
 sto:bC
inductive VX where
 | tmp (t:Nat)
 | const (a:AV)
 | home (t:Nat)
inductive mE where
 | pure | frz | ref | bor
 deriving DecidableEq
inductive Conv where
 | int (k:IntKind)
 | str
 | bytesToStr
inductive mg where
 | move (x:VX)
 | pick (c a b:VX)
 | alloc (cs:List AV)
 | box (x:VX)
 | build (zero:List AV) (parts:List (Nat×Nat×VX))
 | buildSlice (sz:gJ) (agg:Bool) (zero:List AV) (len:Nat) (parts:List (Nat×VX))
 | buildRow (sz:gJ) (agg:Bool) (zero:List AV) (len:Nat) (parts:List (Nat×VX))
 | buildO (sz:gJ) (x:VX)
 | appendO (sz:gJ) (bytes:Nat) (x y:VX)
 | q9 (x:VX)
 | lendF (x:VX)
 | mx (isMax:Bool) (x y:VX)
 | capE (x:VX)
 | appendN (sz:gJ) (bytes:Nat) (agg:Bool) (zero:List AV) (x n:VX)
 | bad
 | emptyRow
 | boxZ (x:VX)
 | buildZ (sz:gJ) (agg:Bool) (zero:List AV) (len:Nat) (parts:List (Nat×VX))
 | appendE (sz:gJ) (bytes:Nat) (x y:VX)
 | storeR (n:Nat) (a x:VX)
 | buildH (sz:gJ) (off:Nat) (x:VX)
 | appendH (sz:gJ) (bytes:Nat) (x y:VX)
 | load (agg:Bool) (n:Nat) (a:VX)
 | store (n:Nat) (a x:VX)
 | storeP (n:Nat) (a x:VX)
 | bin (KC:Bool) (op:BinOp) (x y:VX)
 | eqNil (ne:Bool) (x:VX)
 | neg (x:VX)
 | not (x:VX)
 | conv (c:Conv) (x:VX)
 | mkfn (f:FuncId) (cap:List VX)
 | makeSlice (sz:gJ) (bytes:Nat) (agg:Bool) (zero:List AV) (l c:VX)
 | slice (isStr:Bool) (sz:gJ) (x:VX) (lo hi mx:Option VX)
 | fieldAddr (off:Nat) (x:VX)
 | field (agg:Bool) (off n:Nat) (x:VX)
 | indexAddr (sz:gJ) (x i:VX)
 | index (x i:VX)
 | indexArr (agg:Bool) (len n:Nat) (x i:VX)
 | extract (x:VX) (i:Nat)
 | len (D7:Bool) (x:VX)
 | append (sz:gJ) (bytes:Nat) (x y:VX)
 | copy (sz:gJ) (x y:VX)
 | call (f:FuncId) (m:mE) (raw:Bool) (args:List VX)
 | callv (f:VX) (m:mE) (raw:Bool) (args:List VX)
 | callU (x:VX) (f:FuncId) (m:mE) (raw:Bool) (args:List VX)
structure bV where
 dst:Option Nat
 guard:Option (Nat×Bool)
 op:mg
inductive VC where
 | skip
 | reg (ops:List bV)
 | regL (ops:List bV) (x:VX)
 | regP (ops:List bV) (ps:List (Nat×Option Nat×Nat))
 | regD (perm:List Nat) (ops:List bV) (x:Option VX) (ps:List (Nat×Option Nat×Nat))
 | clone (x y c b m t dst:Nat) (sz:gJ) (bytes:Nat) (agg:Bool) (zero:List AV)
 | seq (a b:VC)
 | seqP (a:VC) (ps:List (Nat×Option Nat×Nat)) (b:VC)
 | cond (c:VX) (a b:VC)
 | block (id:Nat) (c:VC)
 | loop (prom:List (Nat×Option Nat×Nat×gJ×Bool)) (liveE liveS:List Nat) (key:Nat)
 | exit (id:Nat)
 | ret
inductive Out where
 | norm | ret | exit (id:Nat)
structure cn where
 ret:AV
 pars:List (Option Obj)
 extra:List (Option Obj)
abbrev dh:=FuncId->List AV->List (Option Obj)->Option cn
abbrev di:=Nat->St->Option (Out×St)
inductive aM where
 | mk (call:FuncId->List AV->List (Option Obj)->Option cn) (loop:Nat->St->Option (Out×St)) (ar:BinOp->IntKind->Int->Int->Int) (wrap:IntKind->Int->Int) (plus:Int->Int->Int) (minus:Int->Int->Int) (cmp:BinOp->Int->Int->Bool) (isZero:Int->Bool) (eZ:BinOp->ByteArray->ByteArray->Bool) (BR:ByteArray->ByteArray->ByteArray) (s8:ByteArray->ByteArray->Bool) (sLen:ByteArray->Int) (BS:ByteArray->Int->Option Int) (Mi:ByteArray->Int->Int->Option ByteArray) (bytesOf:ByteArray->List D) (ofBytes:List D->Option ByteArray) (len:List D->Int) (cF:List D->Int->Option D) (sub:List D->Int->Int->Option (List D)) (app:List D->List D->List D) (set:List D->Int->D->List D) (rm:Int->D->List D) (fits:Nat->Nat->List D->Bool) (fP:Nat->Int->Bool) (over:List D->List D->List D) (bE:List D->List D) (closed:List D->Bool) (flat:List D->Bool)
def aM.call:aM->FuncId->List AV->List (Option Obj)->Option cn
 | .mk x _ _ _ _ _ _ _ _ _ _ _ _ _ _ _ _ _ _ _ _ _ _ _ _ _ _ _=>x
def aM.loop:aM->Nat->St->Option (Out×St)
 | .mk _ x _ _ _ _ _ _ _ _ _ _ _ _ _ _ _ _ _ _ _ _ _ _ _ _ _ _=>x
def aM.ar:aM->BinOp->IntKind->Int->Int->Int
 | .mk _ _ x _ _ _ _ _ _ _ _ _ _ _ _ _ _ _ _ _ _ _ _ _ _ _ _ _=>x
def aM.wrap:aM->IntKind->Int->Int
 | .mk _ _ _ x _ _ _ _ _ _ _ _ _ _ _ _ _ _ _ _ _ _ _ _ _ _ _ _=>x
def aM.plus:aM->Int->Int->Int
 | .mk _ _ _ _ x _ _ _ _ _ _ _ _ _ _ _ _ _ _ _ _ _ _ _ _ _ _ _=>x
def aM.minus:aM->Int->Int->Int
 | .mk _ _ _ _ _ x _ _ _ _ _ _ _ _ _ _ _ _ _ _ _ _ _ _ _ _ _ _=>x
def aM.cmp:aM->BinOp->Int->Int->Bool
 | .mk _ _ _ _ _ _ x _ _ _ _ _ _ _ _ _ _ _ _ _ _ _ _ _ _ _ _ _=>x
def aM.isZero:aM->Int->Bool
 | .mk _ _ _ _ _ _ _ x _ _ _ _ _ _ _ _ _ _ _ _ _ _ _ _ _ _ _ _=>x
def aM.eZ:aM->BinOp->ByteArray->ByteArray->Bool
 | .mk _ _ _ _ _ _ _ _ x _ _ _ _ _ _ _ _ _ _ _ _ _ _ _ _ _ _ _=>x
def aM.BR:aM->ByteArray->ByteArray->ByteArray
 | .mk _ _ _ _ _ _ _ _ _ x _ _ _ _ _ _ _ _ _ _ _ _ _ _ _ _ _ _=>x
def aM.s8:aM->ByteArray->ByteArray->Bool
 | .mk _ _ _ _ _ _ _ _ _ _ x _ _ _ _ _ _ _ _ _ _ _ _ _ _ _ _ _=>x
def aM.sLen:aM->ByteArray->Int
 | .mk _ _ _ _ _ _ _ _ _ _ _ x _ _ _ _ _ _ _ _ _ _ _ _ _ _ _ _=>x
def aM.BS:aM->ByteArray->Int->Option Int
 | .mk _ _ _ _ _ _ _ _ _ _ _ _ x _ _ _ _ _ _ _ _ _ _ _ _ _ _ _=>x
def aM.Mi:aM->ByteArray->Int->Int->Option ByteArray
 | .mk _ _ _ _ _ _ _ _ _ _ _ _ _ x _ _ _ _ _ _ _ _ _ _ _ _ _ _=>x
def aM.bytesOf:aM->ByteArray->List D
 | .mk _ _ _ _ _ _ _ _ _ _ _ _ _ _ x _ _ _ _ _ _ _ _ _ _ _ _ _=>x
def aM.ofBytes:aM->List D->Option ByteArray
 | .mk _ _ _ _ _ _ _ _ _ _ _ _ _ _ _ x _ _ _ _ _ _ _ _ _ _ _ _=>x
def aM.len:aM->List D->Int
 | .mk _ _ _ _ _ _ _ _ _ _ _ _ _ _ _ _ x _ _ _ _ _ _ _ _ _ _ _=>x
def aM.cF:aM->List D->Int->Option D
 | .mk _ _ _ _ _ _ _ _ _ _ _ _ _ _ _ _ _ x _ _ _ _ _ _ _ _ _ _=>x
def aM.sub:aM->List D->Int->Int->Option (List D)
 | .mk _ _ _ _ _ _ _ _ _ _ _ _ _ _ _ _ _ _ x _ _ _ _ _ _ _ _ _=>x
def aM.app:aM->List D->List D->List D
 | .mk _ _ _ _ _ _ _ _ _ _ _ _ _ _ _ _ _ _ _ x _ _ _ _ _ _ _ _=>x
def aM.set:aM->List D->Int->D->List D
 | .mk _ _ _ _ _ _ _ _ _ _ _ _ _ _ _ _ _ _ _ _ x _ _ _ _ _ _ _=>x
def aM.rm:aM->Int->D->List D
 | .mk _ _ _ _ _ _ _ _ _ _ _ _ _ _ _ _ _ _ _ _ _ x _ _ _ _ _ _=>x
def aM.fits:aM->Nat->Nat->List D->Bool
 | .mk _ _ _ _ _ _ _ _ _ _ _ _ _ _ _ _ _ _ _ _ _ _ x _ _ _ _ _=>x
def aM.fP:aM->Nat->Int->Bool
 | .mk _ _ _ _ _ _ _ _ _ _ _ _ _ _ _ _ _ _ _ _ _ _ _ x _ _ _ _=>x
def aM.over:aM->List D->List D->List D
 | .mk _ _ _ _ _ _ _ _ _ _ _ _ _ _ _ _ _ _ _ _ _ _ _ _ x _ _ _=>x
def aM.bE:aM->List D->List D
 | .mk _ _ _ _ _ _ _ _ _ _ _ _ _ _ _ _ _ _ _ _ _ _ _ _ _ x _ _=>x
def aM.closed:aM->List D->Bool
 | .mk _ _ _ _ _ _ _ _ _ _ _ _ _ _ _ _ _ _ _ _ _ _ _ _ _ _ x _=>x
def aM.flat:aM->List D->Bool
 | .mk _ _ _ _ _ _ _ _ _ _ _ _ _ _ _ _ _ _ _ _ _ _ _ _ _ _ _ x=>x
mutual
def AV.refs:AV->List Id
 | .agg cs=>AV.bR cs
 | .tup cs=>AV.bR cs
 | .ptr r _=>[r]
 | .prow r _ _ _=>[r]
 | .arr r _ _ _=>[r]
 | .fn _ cs=>AV.bR cs
 | _=>[]
def AV.bR:List AV->List Id
 | []=>[]
 | a::l=>a.refs++AV.bR l
end
mutual
def AV.map (f:Id->Id):AV->AV
 | .agg cs=> .agg (AV.ol f cs)
 | .tup cs=> .tup (AV.ol f cs)
 | .ptr r o=> .ptr (f r) o
 | .prow r s i o=> .prow (f r) s i o
 | .arr r s g u=> .arr (f r) s g u
 | .fn g cs=> .fn g (AV.ol f cs)
 | x=>x
def AV.ol (f:Id->Id):List AV->List AV
 | []=>[]
 | a::l=>a.map f::AV.ol f l
end
def Obj.refs:Obj->List Id
 | .box cs=>AV.bR cs
 | .hrows _ _ _ _ q _=>[q]
 | _=>[]
def Obj.map (f:Id->Id):Obj->Obj
 | .box cs=> .box (AV.ol f cs)
 | .hrows s xs i off q e=> .hrows s xs i off (f q) e
 | x=>x
def Obj.rw:Obj->Option (gJ×List D)
 | .box _=>none
 | .rows s xs=>some (s,xs)
 | .orows s xs=>some (s,xs)
 | .hrows s xs _ _ _ _=>some (s,xs)
 | .gone s xs=>some (s,xs)
def Obj.rd:Obj->Option (gJ×List D)
 | .rows s xs=>some (s,xs)
 | .orows s xs=>some (s,xs)
 | .hrows s xs _ _ _ _=>some (s,xs)
 | _=>none
def Obj.deep:Obj->Bool
 | .orows _ _=>true
 | .hrows _ _ _ _ _ _=>true
 | _=>false
def bC.get (s:bC) (r:Id):Option Obj:=
 match s[r.1]? with
 | some l=>match l[r.2]? with
  | some o=>o
  | none=>none
 | none=>none
def bC.put (s:bC) (r:Id) (o:Option Obj):bC:=
 match s[r.1]? with
 | some l=>s.set r.1 (l.set r.2 o)
 | none=>s
def bC.lay (s:bC) (t:Nat) (l:List (Option Obj)):Option bC:=
 match s[t]? with
 | some old=>if old.all (·.isNone)then some (s.set t l)else none
 | none=>none
mutual
def AV.forget (p:Id->Bool):AV->AV
 | .agg cs=> .agg (AV.aP p cs)
 | .tup cs=> .tup (AV.aP p cs)
 | .ptr r o=>if p r then .undef else .ptr r o
 | .prow r s i o=>if p r then .undef else .prow r s i o
 | .arr r s g u=>if p r then .undef else .arr r s g u
 | .fn g cs=> .fn g (AV.aP p cs)
 | x=>x
def AV.aP (p:Id->Bool):List AV->List AV
 | []=>[]
 | a::l=>a.forget p::AV.aP p l
end
def Obj.forget (p:Id->Bool):Obj->Obj
 | .box cs=> .box (AV.aP p cs)
 | .hrows s xs i off q e=>if p q then .gone s xs else .hrows s xs i off q e
 | x=>x
def bC.forget (p:Id->Bool) (s:bC):bC:=s.map λl=>l.map λo=>o.map (·.forget p)
def St.kill (s:St) (r:Id):St:=⟨AV.aP (· ==r) s.env,(s.sto.put r none).forget (· ==r)⟩
def St.lay (s:St) (t:Nat) (l:List (Option Obj)):Option St:=
 match s.sto.lay t l with
 | some sto=>some ⟨s.env,sto⟩
 | none=>none
def D.many:D->Bool
 | .agg _=>true
 | _=>false
def D.cells:D->List D
 | .agg cs=>cs
 | x=>[x]
def D.bS (agg:Bool) (cs:List D):Option D:=
 match agg,cs with
 | true,cs=>some (.agg cs)
 | false,[x]=>if x.many then none else some x
 | false,_=>none
def AV.bS (agg:Bool) (cs:List AV):Option AV:=
 match agg,cs with
 | true,cs=>some (.agg cs)
 | false,[x]=>some x
 | false,_=>none
def AV.cells:AV->List AV
 | .agg cs=>cs
 | x=>[x]
def cut {α:Type} (l:List α) (off n:Nat):Option (List α):=
 if off+n<=l.length then some ((l.drop off).take n)else none
def lay {α:Type} (l:List α) (off:Nat) (v:List α):Option (List α):=
 if off+v.length<=l.length then some (l.take off++v++l.drop (off+v.length))else none
section
variable (o:aM)
def content (s:bC):AV->Option (List D)
 | .d (.lst xs)=>some xs
 | .emp=>some []
 | .arr r _ g _=>match s.get r with
  | some (.rows _ xs)=>match g with
   | none=>some xs
   | some (a,n)=>o.sub xs a n
  | _=>none
 | _=>none
def JN (g:Option (Int×Int)) (xs:List D):Option (List D):=match g with
 | none=>some xs
 | some (a,n)=>o.sub xs a n
def fG (s:bC):AV->Option (List D)
 | .arr r sz g u=>match s.get r with
  | some (.orows _ xs)=>JN o g xs
  | some (.hrows _ xs _ _ _ _)=>JN o g xs
  | _=>content o s (.arr r sz g u)
 | x=>content o s x
mutual
def fz (s:St):AV->Option (AV×St)
 | .emp=>some (.d (.lst []),s)
 | .arr r sz g u=>match s.sto.get r with
  | some (.orows _ xs)=>match g with
   | none=>some (.d (.lst (o.bE xs)),s.kill r)
   | some _=>none
  | _=>match content o s.sto (.arr r sz g u)with
   | some xs=>some (.d (.lst xs),s.kill r)
   | none=>none
 | .agg cs=>match BT s cs with
  | some (ds,s)=>some (.agg ds,s)
  | none=>none
 | .tup cs=>match BT s cs with
  | some (ds,s)=>some (.tup ds,s)
  | none=>none
 | x=>some (x,s)
def BT (s:St):List AV->Option (List AV×St)
 | []=>some ([],s)
 | a::l=>match fz s a with
  | some (x,s)=>match BT s l with
   | some (xs,s)=>some (x::xs,s)
   | none=>none
  | none=>none
end
def rp (
    s:bC) (r:Id) (sz:gJ) (g:Option (Int×Int)) (u:Bool):Option (List D):=match s.get r with
 | some (.orows _ xs)=>match g with
  | none=>some (o.bE xs)
  | some _=>none
 | some (.hrows _ xs i off q e)=>match g,s.get q,o.cF xs i with
  | none,some (.orows j ys),some (.agg cs)=>if e=j then match lay cs off [.own e ys]with
    | some cs'=>some (o.bE (o.set xs i (.agg cs')))
    | none=>none
   else none
  | _,_,_=>none
 | _=>content o s (.arr r sz g u)
def dB (s:bC):List AV->Option (List D)
 | []=>some []
 | .d x::l=>match dB s l with
  | some ds=>some (x::ds)
  | none=>none
 | .emp::l=>match dB s l with
  | some ds=>some (.lst []::ds)
  | none=>none
 | .arr r sz g u::l=>match rp o s r sz g u with
  | some xs=>match dB s l with
   | some ds=>some (.lst xs::ds)
   | none=>none
  | none=>none
 | _=>none
mutual
def snap (s:bC):AV->Option AV
 | .emp=>some (.d (.lst []))
 | .arr r sz g u=>match rp o s r sz g u with
  | some xs=>some (.d (.lst xs))
  | none=>none
 | .agg cs=>match jz s cs with
  | some ds=>some (.agg ds)
  | none=>none
 | .ptr r off=>match s.get r with
  | some (.box cs)=>match dB o s cs with
   | some ds=>some (.sp ds off)
   | none=>none
  | _=>none
 | x=>some x
def jz (s:bC):List AV->Option (List AV)
 | []=>some []
 | a::l=>match snap s a with
  | some x=>match jz s l with
   | some xs=>some (x::xs)
   | none=>none
  | none=>none
end
def dO:D->Bool
 | .own _ _=>false
 | .agg _=>false
 | _=>true
def kT (
    s:St):AV->Option (D×St)
 | .d x=>match dO x with
  | true=>some (x,s)
  | false=>none
 | .emp=>some (.lst [],s)
 | .arr r sz none _=>match sz.2 with
  | 0=>none
  | _+1=>match s.sto.get r with
   | some (.orows _ ys)=>some (.own sz ys,s.kill r)
   | some (.rows _ ys)=>match o.flat ys with
    | true=>some (.own sz ys,s.kill r)
    | false=>none
   | _=>none
 | _=>none
def bM (s:St):List AV->Option (List D×St)
 | []=>some ([],s)
 | a::l=>match kT o s a with
  | some (x,s)=>match bM s l with
   | some (xs,s)=>some (x::xs,s)
   | none=>none
  | none=>none
def rM (s:St) (sz:gJ):AV->Option (List D×St)
 | .emp=>some ([],s)
 | .arr r sz' g u=>match kT o s (.arr r sz' g u)with
  | some (.own e xs,s)=>if e=sz then some (xs,s)else none
  | _=>none
 | _=>none
def scalar:AV->Bool
 | .d (.int _ _)=>true
 | .d (.bool _)=>true
 | .d (.str _)=>true
 | .tup []=>true
 | .bare=>true
 | _=>false
def dL:List AV->Option (List D)
 | []=>some []
 | .d x::l=>match dL l with
  | some xs=>some (x::xs)
  | none=>none
 | _=>none
def dZ:List AV->Option (List D)
 | []=>some []
 | .d x::l=>match dZ l with
  | some xs=>some (x::xs)
  | none=>none
 | .emp::l=>match dZ l with
  | some xs=>some (.lst []::xs)
  | none=>none
 | _=>none
def JO:AV->Option D
 | .d x=>some x
 | .agg cs=>match dL cs with
  | some ds=>some (.agg ds)
  | none=>none
 | _=>none
def ev (env:List AV):VX->Option AV
 | .tmp t=>env[t]?
 | .const a=>some a
 | .home t=>match env[t]? with
  | some (.ptr r o)=>if r=(t,0)then some (.ptr r o)else none
  | _=>none
def zi (env:List AV):List VX->Option (List AV)
 | []=>some []
 | x::l=>match ev env x with
  | some a=>match zi env l with
   | some as=>some (a::as)
   | none=>none
  | none=>none
def Gf (env:List AV):Option VX->Option (Option AV)
 | none=>some none
 | some x=>match ev env x with
  | some a=>some (some a)
  | none=>none
def reach (s:bC):Nat->List Id->List Id->Option (List Id)
 | _,[],acc=>some acc
 | 0,_::_,_=>none
 | n+1,r::todo,acc=>
  if acc.contains r then reach s n todo acc
  else match s.get r with
   | some ob=>reach s n (ob.refs++todo) (acc++[r])
   | none=>none
def idx (ids:List Id) (r:Id):Nat:=ids.findIdx (· ==r)
def gB (s:bC) (f:Id->Id):List Id->List (Option Obj)->Option bC
 | [],[]=>some s
 | r::ids,ob::obs=>gB (s.put r (ob.map (·.map f))) f ids obs
 | _,_=>none
def handed (m:mE) (as:List AV) (s:St):Option (List AV×St):=
 match m with
 | .ref=>some (as,s)
 | .frz=>BT o s as
 | _=>match jz o s.sto as with
  | some as=>some (as,s)
  | none=>none
def gK:List (Option Obj)->Bool
 | []=>true
 | some _::l=>gK l
 | none::_=>false
def St.buried (ids:List Id) (pars:List (Option Obj)) (s:St):St:=
 match gK pars with
 | true=>s
 | false=>⟨AV.aP (λr=>ids.contains r&&(s.sto.get r).isNone) s.env,s.sto.forget λr=>ids.contains r&&(s.sto.get r).isNone⟩
mutual
def fq:AV->Bool
 | .d (.int _ _)=>true
 | .d (.bool _)=>true
 | .d (.str _)=>true
 | .emp=>true
 | .arr _ _ _ _=>true
 | .agg cs=>nD cs
 | .tup cs=>nD cs
 | _=>false
def nD:List AV->Bool
 | []=>true
 | a::l=>match fq a with
  | true=>nD l
  | false=>false
end
def jS:List (Option Obj)->Bool
 | []=>true
 | some (.rows _ xs)::l=>match o.closed xs with
  | true=>jS l
  | false=>false
 | some (.orows _ xs)::l=>match o.closed xs with
  | true=>jS l
  | false=>false
 | _=>false
def dJ (
    f:FuncId) (m:mE) (raw:Bool) (as:List AV) (dst:Option Nat) (s:St):Option (AV×St):=
 match m with
 | .bor=>
      match jz o s.sto as with
  | none=>none
  | some as=>
   match (AV.bR as).isEmpty with
   | false=>none
   | true=>match o.call f as []with
    | none=>none
    | some c=>match scalar c.ret with
     | true=>some (c.ret,s)
     | false=>match raw,dst,c.pars,fq c.ret,jS o c.extra with
      | true,some t,[],true,true=>match s.lay t (c.extra.map λob=>ob.map (·.map λr=>(t,r.2)))with
       | some s=>some (c.ret.map λr=>(t,r.2),s)
       | none=>none
      | _,_,_,_,_=>none
 | m=>
  match m != .pure || (AV.bR as).isEmpty with
  | false=>none
  | true=>
  match handed o m as s with
  | none=>none
  | some (
      as,
        s)=>
   match reach s.sto 60 (AV.bR as) []with
   | none=>none
   | some ids=>
    match o.call f (AV.ol (λr=>(1,idx ids r)) as) (ids.map λr=>(s.sto.get r).map (·.map λr=>(1,idx ids r)))with
    | none=>none
    | some c=>
     let back:Id->Id:=λr=>if r.1=1 then ids.getD r.2 (0,0)else (dst.getD 0,r.2)
     match gB s.sto back ids c.pars with
     | none=>none
     | some sto=>
      match St.buried ids c.pars ⟨s.env,sto⟩with
      | s=>match c.extra with
       | []=>some (c.ret.map back,s)
       | e::ex=>match raw,dst with
        | true,some t=>match s.lay t ((e::ex).map λob=>ob.map (·.map back))with
         | some s=>some (c.ret.map back,s)
         | none=>none
        | _,_=>none
def bin (op:BinOp):AV->AV->Option AV
 | .d (.int k a),.d (.int k' b)=>
  match op with
  | .add | .sub | .mul | .and | .or | .xor=>if k=k' then some (.d (.int k (o.ar op k a b)))else none
  | .quo | .rem=>if k=k' then (match o.isZero b with | false=>some (.d (.int k (o.ar op k a b))) | true=>none)else none
  | .shl | .shr=>match o.cmp .lss b 0 with | false=>some (.d (.int k (o.ar op k a b))) | true=>none
  | .andNot=>none
  | _=>if k=k' then some (.d (.bool (o.cmp op a b)))else none
 | .d (.str a),.d (.str b)=>
  match op with
  | .add=>match o.s8 a b with | true=>some (.d (.str (o.BR a b))) | false=>none
  | .eql | .neq | .lss | .leq | .gtr | .geq=>some (.d (.bool (o.eZ op a b)))
  | _=>none
 | .d (.bool a),.d (.bool b)=>
  match op with
  | .eql=>some (.d (.bool (a==b)))
  | .neq=>some (.d (.bool (a !=b)))
  | _=>none
 | _,_=>none
def bC.rd (s:bC) (r:Id):Option (gJ×List D):=match s.get r with
 | some ob=>ob.rd
 | none=>none
def loadAt (
      s:bC) (agg:Bool) (n:Nat):AV->Option AV
 | .ptr r off=>match s.get r with
  | some (.box cs)=>match cut cs off n with
   | some cs=>AV.bS agg cs
   | none=>none
  | _=>none
 | .prow r sz i off=>match s.rd r with
  | some (
      sz',xs)=>if sz=sz' then match o.cF xs i with
    | some x=>if x.cells.length=sz.2 then match cut x.cells off n with
      | some cs=>AV.bS agg (cs.map .d)
      | none=>none
     else none
    | none=>none
   else none
  | _=>none
 | .sp cs off=>match cut cs off n with
  | some cs=>AV.bS agg (cs.map .d)
  | none=>none
 | _=>none
def AV.one:AV->Bool
 | .undef | .bare | .agg _ | .tup _=>false
 | _=>true
def storeAt (s:St) (n:Nat) (p x:AV):Option St:=
 let vs:=x.cells
 if vs.length≠n || !(vs.all AV.one)then none else
 match p with
 | .ptr r off=>match s.sto.get r with
   | some (.box cs)=>match lay cs off vs with
    | some cs=>some ⟨s.env,s.sto.put r (some (.box cs))⟩
    | none=>none
   | _=>none
 | .prow r sz i off=>match s.sto.get r with
  | some (.orows _ _)=>match bM o s vs with
   | some (
       ds,s2)=>match s2.sto.get r with
    | some (.orows sz' xs)=>match o.cF xs i with
     | some (.agg cs)=>if sz=sz'/\cs.length=sz.2 then match lay cs off ds with
       | some cs'=>some ⟨s2.env,s2.sto.put r (some (.orows sz (o.set xs i (.agg cs'))))⟩
       | none=>none
      else none
     | _=>none
    | _=>none
   | none=>none
  | _=>
      match BT o s vs with
   | some (
       vs,
         s)=>match dL vs with
    | some ds=>match s.sto.get r with
     | some (
         .rows sz' xs)=>if sz=sz' then match o.cF xs i with
       | some e=>if e.cells.length=sz.2 then match lay e.cells off ds with
         | some cs=>match D.bS e.many cs with
          | some e'=>some ⟨s.env,s.sto.put r (some (.rows sz (o.set xs i e')))⟩
          | none=>none
         | none=>none
        else none
       | none=>none
      else none
     | _=>none
    | none=>none
   | none=>none
 | _=>none
def xY {α:Type} (cells:List α):List (Nat×List α)->Option (List α)
 | []=>some cells
 | (off,vs)::l=>match lay cells off vs with
  | some c=>xY c l
  | none=>none
def AV.whole:AV->Bool
 | .undef | .bare | .tup _=>false
 | _=>true
def jT (
    env:List AV):List (Nat×Nat×VX)->Option (List (Nat×List AV))
 | []=>some []
 | (off,n,x)::l=>match ev env x with
  | some a=>match a.whole,a.cells.length==n with
   | true,true=>match jT env l with
    | some ps=>some ((off,a.cells)::ps)
    | none=>none
   | _,_=>none
  | none=>none
def dw (env:List AV):List (Nat×VX)->Option (List (Nat×AV))
 | []=>some []
 | (i,x)::l=>match ev env x with
  | some a=>match dw env l with
   | some ps=>some ((i,a)::ps)
   | none=>none
  | none=>none
def pX:List AV->Option (List D)
 | []=>some []
 | a::l=>match JO a with
  | some x=>match pX l with
   | some xs=>some (x::xs)
   | none=>none
  | none=>none
def jn (sz:Nat) (xs:List D):List (Nat×D)->Option (List D)
 | []=>some xs
 | (i,x)::l=>if i<xs.length&&x.cells.length==sz then jn sz (xs.set i x) l else none
def asInt:AV->Option Int
 | .d (.int _ n)=>some n
 | _=>none
def lK:Option AV->Option (Option Int)
 | none=>some none
 | some a=>match asInt a with
  | some n=>some (some n)
  | none=>none
def sliceAt (s:bC) (sz:gJ) (x:AV) (lo hi mx:Option Int):Option AV:=
 match mx with
 | some m=>match content o s x,lo,hi with
  | some _,none,some h=>match o.isZero h,o.isZero m with
   | true,true=>some .emp
   | _,_=>none
  | _,_,_=>none
 | none=>match x with
  | .emp=>match lo,hi with
   | none,none=>some .emp
   | _,_=>match o.isZero (lo.getD 0),o.isZero (hi.getD 0)with
    | true,true=>some .emp
    | _,_=>none
  | .d (.lst xs)=>match (match lo with | none=>true | some _=>o.fits sz.2 0 xs)with
   | true=>match o.sub xs (lo.getD 0) (o.minus (hi.getD (o.len xs)) (lo.getD 0))with
    | some ys=>some (.d (.lst ys))
    | none=>none
   | false=>none
  | .arr r sz' g u=>match fG o s (.arr r sz' g u)with
   | none=>none
   | some xs=>match lo,hi with
    | none,none=>some (.arr r sz' g u)
    | _,_=>if sz=sz' then match o.sub xs (lo.getD 0) (o.minus (hi.getD (o.len xs)) (lo.getD 0))with
     | some _=>some (.arr r sz (some (match g with | none=>lo.getD 0 | some (a,_)=>o.plus a (lo.getD 0),o.minus (hi.getD (o.len xs)) (lo.getD 0))) false)
     | none=>none
     else none
  | _=>none
def AV.KC:AV->Bool
 | .d (.bool _)=>true
 | _=>false
def AV.D7:AV->Bool
 | .d (.str _)=>true
 | _=>false
def evalOp (
      env:List AV) (s:bC):mg->Option (AV×List (Option Obj))
 | .move x=>match ev env x with | some a=>some (a,[]) | none=>none
 | .pick c a b=>match ev env c,ev env a,ev env b with
  | some (.d (.bool t)),some x,some y=>match t with | true=>some (x,[]) | false=>some (y,[])
  | _,_,_=>none
 | .bin KC op x y=>match ev env x,ev env y with
  | some a,some b=>match a.KC==KC with
   | true=>match bin o op a b with | some v=>some (v,[]) | none=>none
   | false=>none
  | _,_=>none
 | .eqNil ne x=>match ev env x with
  | some .nilp=>some (.d (.bool (!ne)),[])
  | some (.ptr _ _)=>some (.d (.bool ne),[])
  | some (.prow _ _ _ _)=>some (.d (.bool ne),[])
  | some (.sp _ _)=>some (.d (.bool ne),[])
  | _=>none
 | .neg x=>match ev env x with | some (.d (.int k n))=>some (.d (.int k (o.ar .sub k 0 n)),[]) | _=>none
 | .not x=>match ev env x with | some (.d (.bool b))=>some (.d (.bool (!b)),[]) | _=>none
 | .conv c x=>match ev env x with
  | some a=>match c,a with
   | .int k,.d (.int _ n)=>some (.d (.int k (o.wrap k n)),[])
   | .str,.d (.str t)=>some (.d (.str t),[])
   | .bytesToStr,a=>match content o s a with
    | some xs=>match o.ofBytes xs with | some t=>some (.d (.str t),[]) | none=>none
    | none=>none
   | _,_=>none
  | none=>none
 | .buildZ sz agg zero len parts=>match dw env parts with
  | some ps=>match dZ zero with
   | some ds=>match D.bS agg ds with
    | some z=>match pX (ps.map (·.2))with
     | some xs=>match jn sz.2 (List.replicate len z) ((ps.map (·.1)).zip xs)with
      | some ys=>some (.d (.lst ys),[])
      | none=>none
     | none=>none
    | none=>none
   | none=>none
  | none=>none
 | .emptyRow=>some (.emp,[])
 | .mkfn f cap=>match zi env cap with | some as=>some (.fn f as,[]) | none=>none
 | .fieldAddr off x=>match ev env x with
  | some (.ptr r i)=>some (.ptr r (i+off),[])
  | some (.prow r sz i n)=>some (.prow r sz i (n+off),[])
  | some (.sp cs i)=>some (.sp cs (i+off),[])
  | _=>none
 | .field agg off n x=>match ev env x with
  | some (.agg cs)=>match cut cs off n with
   | some cs=>match AV.bS agg cs with | some v=>some (v,[]) | none=>none
   | none=>none
  | _=>none
 | .indexAddr sz x i=>match ev env x,ev env i with
  | some (.d (.lst xs)),some (.d (.int _ n))=>match o.cF xs n with
   | some e=>if e.cells.length=sz.2 then some (.sp e.cells 0,[])else none
   | none=>none
  | some (.arr r sz' g u),some (.d (.int _ n))=>match fG o s (.arr r sz' g u)with
   | some xs=>match o.cF xs n with
    | some _=>if sz=sz' then some (.prow r sz (match g with | none=>n | some (a,_)=>o.plus a n) 0,[])else none
    | none=>none
   | none=>none
  | _,_=>none
 | .index x i=>match ev env x,ev env i with
  | some (.d (.str t)),some (.d (.int _ n))=>match o.BS t n with | some b=>some (.d (.int .u8 b),[]) | none=>none
  | _,_=>none
 | .indexArr agg len n x i=>match ev env x,ev env i with
  | some (.agg cs),some (.d (.int _ k))=>if 0<=k/\k<len then match cut cs (k.toNat*n) n with
    | some cs=>match AV.bS agg cs with | some v=>some (v,[]) | none=>none
    | none=>none
   else none
  | _,_=>none
 | .extract x i=>match ev env x with
  | some (.tup vs)=>match vs[i]? with | some v=>some (v,[]) | none=>none
  | _=>none
 | .len D7 x=>match ev env x with
  | some a=>match a.D7==D7 with
   | false=>none
   | true=>match a with
    | .d (.str t)=>some (.d (.int .i64 (o.sLen t)),[])
    | .d (.lst xs)=>some (.d (.int .i64 (o.len xs)),[])
    | .emp=>some (.d (.int .i64 0),[])
    | .arr r sz g u=>match g with
     | some (_,n)=>some (.d (.int .i64 n),[])
     | none=>match fG o s (.arr r sz g u)with | some xs=>some (.d (.int .i64 (o.len xs)),[]) | none=>none
    | _=>none
  | none=>none
 | .slice isStr sz x lo hi mx=>match ev env x,Gf env lo,Gf env hi,Gf env mx with
  | some x,some lo,some hi,some mx=>match lK lo,lK hi,lK mx with
   | some lo,some hi,some mx=>match isStr,x with
    | true,.d (.str t)=>match mx with
     | none=>match o.Mi t (lo.getD 0) (hi.getD (o.sLen t))with | some u=>some (.d (.str u),[]) | none=>none
     | some _=>none
    | false,x=>match sliceAt o s sz x lo hi mx with | some v=>some (v,[]) | none=>none
    | _,_=>none
   | _,_,_=>none
  | _,_,_,_=>none
 | .load agg n a=>match ev env a with
  | some p=>match loadAt o s agg n p with | some v=>some (v,[]) | none=>none
  | none=>none
 | .alloc cs=>some (.ptr (0,0) 0,[some (.box cs)])
 | .box x=>match ev env x with
  | some a=>match a with
   | .tup _ | .undef | .bare=>none
   | a=>some (.ptr (0,0) 0,[some (.box a.cells)])
  | none=>none
 | .build zero parts=>match jT env parts with
  | some ps=>match xY zero ps with | some cs=>some (.agg cs,[]) | none=>none
  | none=>none
 | .makeSlice sz bytes agg zero l c=>match ev env l,ev env c with
  | some (
      .d (.int _ l)),some (.d (.int _ c))=>
   if zero.length=sz.2 then
    match dZ zero with
    | some ds=>match D.bS agg ds with
     | some z=>match o.cmp .eql l c,o.fP bytes c with
      | true,true=>some (.arr (0,0) sz none true,[some (.rows sz (o.rm c z))])
      | _,_=>none
     | none=>none
    | none=>none
   else none
  | _,_=>none
 | _=>none
def JQ:Option (Int×Int)->Bool
 | none=>true
 | some (a,_)=>o.isZero a
def iN (
    r:Id) (s:St):Option St:=match s.sto.get r with
 | some (
     .hrows sz xs i off q j)=>match s.sto.get q,o.cF xs i with
  | some (.orows e ys),some (.agg cs)=>if j=e then match lay cs off [.own j ys]with
    | some cs'=>some ((⟨s.env,s.sto.put r (some (.orows sz (o.set xs i (.agg cs'))))⟩:St).kill q)
    | none=>none
   else none
  | some (.rows e ys),some (.agg cs)=>match o.flat ys with
   | true=>if j=e then match lay cs off [.own j ys]with
     | some cs'=>some ((⟨s.env,s.sto.put r (some (.orows sz (o.set xs i (.agg cs'))))⟩:St).kill q)
     | none=>none
    else none
   | false=>none
  | _,_=>none
 | _=>some s
def kH (x:VX) (s:St):Option St:=match ev s.env x with
 | some (.prow r _ _ _)=>iN o r s
 | _=>none
def uy (
    s:St) (dst:Option Nat) (sz:gJ) (bytes:Nat) (x y:VX):Option (AV×St):=match ev s.env x,ev s.env y,dst with
 | some a,
      some b,some t=>match rM o s sz a with
  | some (
      xs,s)=>match kT o s b with
   | some (.own e (y::ys),s)=>if e=sz then match o.fits sz.2 bytes (o.app xs (y::ys))with
     | true=>match s.lay t [some (.orows sz (o.app xs (y::ys)))]with
      | some s=>some (.arr (t,0) sz none false,s)
      | none=>none
     | false=>none
    else none
   | _=>none
  | none=>none
 | _,_,_=>none
def Ey (s:bC) (cs:List AV) (off:Nat):Option (List D×Id×gJ):=match cs[off]? with
 | some (.arr q e none _)=>match dL (cs.set off (.d (.int .i64 0)))with
  | some ds=>match e.2,ds.all dO,s.get q with
   | _+1,true,some (.rows _ _)=>some (ds.set off (.own e []),q,e)
   | _+1,true,some (.orows _ _)=>some (ds.set off (.own e []),q,e)
   | _,_,_=>none
  | none=>none
 | _=>none
def aK (
    s:St) (dst:Option Nat):mg->Option (AV×St)
 | .store n a x=>match ev s.env a,ev s.env x with
  | some p,some v=>match storeAt o s n p v with | some s=>some (.bare,s) | none=>none
  | _,_=>none
 | .buildO sz x=>match ev s.env x,dst with
  | some (.agg cs),some t=>match bM o s cs with
   | some (ds,s)=>if ds.length=sz.2 then match s.lay t [some (.orows sz [.agg ds])]with
     | some s=>some (.arr (t,0) sz none true,s)
     | none=>none
    else none
   | none=>none
  | _,_=>none
 | .appendO sz bytes x y=>uy o s dst sz bytes x y
 | .q9 x=>match ev s.env x with
  | some (
      .prow r sz i off)=>match s.sto.get r with
   | some (
       .orows sz' xs)=>match o.cF xs i with
    | some (
        .agg cs)=>match cut cs off 1 with
     | some [.own j ys]=>match j.2,dst with
      | _+1,some t=>if sz=sz'/\cs.length=sz.2 then match (⟨s.env,s.sto.put r (some (.hrows sz xs i off (t,0) j))⟩:St).lay t [some (.orows j ys)]with
        | some s=>some (.arr (t,0) j none false,s)
        | none=>none
       else none
      | _,_=>none
     | _=>match loadAt o s.sto false 1 (.prow r sz i off)with | some v=>some (v,s) | none=>none
    | _=>none
   | _=>none
  | _=>none
 | .lendF x=>
        match ev s.env x with
  | some (
      .prow r sz i off)=>match s.sto.get r with
   | some (
       .orows sz' xs)=>match o.cF xs i with
    | some (
        .agg cs)=>match cut cs off 1 with
     | some [.own j ys]=>match j.2,dst,o.flat ys with
      | _+1,some t,true=>if sz=sz'/\cs.length=sz.2 then match (⟨s.env,s.sto.put r (some (.hrows sz xs i off (t,0) j))⟩:St).lay t [some (.rows j ys)]with
        | some s=>some (.arr (t,0) j none false,s)
        | none=>none
       else none
      | _,_,_=>none
     | _=>none
    | _=>none
   | _=>none
  | _=>none
 | .appendE sz bytes x y=>match ev s.env x,ev s.env y,dst with
  | some .emp,some b,some t=>match content o s.sto b with
   | none=>none
   | some ys=>match o.fits sz.2 bytes ys with
    | true=>match s.lay t [some (.rows sz ys)]with
     | some s=>some (.arr (t,0) sz none false,s)
     | none=>none
    | false=>none
  | _,_,_=>none
 | .storeR n a x=>match ev s.env a,ev s.env x with
  | some (
      .prow r sz i off),some v=>match dL v.cells with
   | some ds=>if ds.length≠n then none else
    match s.sto.get r with
    | some (
        .rows sz' xs)=>if sz=sz' then match o.cF xs i with
      | some e=>if e.cells.length=sz.2 then match lay e.cells off ds with
        | some cs=>match D.bS e.many cs with
         | some e'=>some (.bare,⟨s.env,s.sto.put r (some (.rows sz (o.set xs i e')))⟩)
         | none=>none
        | none=>none
       else none
      | none=>none
     else none
    | _=>none
   | none=>none
  | _,_=>none
 | .buildH sz off x=>match ev s.env x,dst with
  | some (.agg cs),some t=>match Ey s.sto cs off with
   | some (ds,q,j)=>if ds.length=sz.2 then match s.lay t [some (.hrows sz [.agg ds] 0 off q j)]with
     | some s=>some (.arr (t,0) sz none true,s)
     | none=>none
    else none
   | none=>none
  | _,_=>none
 | .appendH sz bytes x y=>match ev s.env y with
  | some (.arr r _ none _)=>match iN o r s with
   | some s=>uy o s dst sz bytes x y
   | none=>none
  | _=>none
 | .mx isMax x y=>match ev s.env x,ev s.env y with
  | some (.d (.int k a)),some (.d (.int k' b))=>if k=k' then match o.cmp .lss a b with
    | true=>match isMax with
     | true=>some (.d (.int k b),s)
     | false=>some (.d (.int k a),s)
    | false=>match isMax with
     | true=>some (.d (.int k a),s)
     | false=>some (.d (.int k b),s)
   else none
  | _,_=>none
 | .boxZ x=>match ev s.env x with
  | some a=>match dL a.cells with
   | some ds=>some (.sp ds 0,s)
   | none=>none
  | none=>none
 | .capE x=>match ev s.env x with
  | some .emp=>some (.d (.int .i64 0),s)
  | _=>none
 | .appendN sz bytes agg zero x n=>match ev s.env x,ev s.env n,dst with
  | some .emp,some (.d (.int _ n)),some t=>
   if zero.length=sz.2 then
    match dZ zero with
    | some ds=>match D.bS agg ds with
     | some z=>match o.cmp .gtr n 0,o.fP bytes n with
      | true,true=>match s.lay t [some (.rows sz (o.rm n z))]with
       | some s=>some (.arr (t,0) sz none false,s)
       | none=>none
      | _,_=>none
     | none=>none
    | none=>none
   else none
  | _,_,_=>none
 | .callU x f m raw args=>match kH o x s with
  | some s=>match zi s.env args with
   | some as=>dJ o f m raw as dst s
   | none=>none
  | none=>none
 | .storeP n a x=>match ev s.env a,ev s.env x with
  | some (.ptr r off),some v=>match storeAt o s n (.ptr r off) v with | some s=>some (.bare,s) | none=>none
  | _,_=>none
 | .call f m raw args=>match zi s.env args with
  | some as=>dJ o f m raw as dst s
  | none=>none
 | .callv f m raw args=>match ev s.env f,zi s.env args with
  | some (.fn g cap),some as=>dJ o g m raw (as++cap) dst s
  | _,_=>none
 | .append sz bytes x y=>match ev s.env x,ev s.env y,dst with
  | some a,
       some b,some t=>match content o s.sto b with
   | none=>none
   | some ys=>match a with
    | .emp=>match o.fits sz.2 bytes ys with
      | true=>match s.lay t [some (.rows sz ys)]with
       | some s=>some (.arr (t,0) sz none false,s)
       | none=>none
      | false=>none
    | .arr r sz' g u=>match content o s.sto (.arr r sz' g u)with
     | some xs=>if sz=sz'&&JQ o g then
       match o.fits sz.2 bytes (o.app xs ys)with
       | true=>match (s.kill r).lay t [some (.rows sz (o.app xs ys))]with
        | some s=>some (.arr (t,0) sz none false,s)
        | none=>none
       | false=>none
      else none
     | none=>none
    | _=>none
  | _,_,_=>none
 | .copy sz x y=>match ev s.env x,ev s.env y with
  | some (.arr r sz' none _),some b=>match content o s.sto b,s.sto.get r with
   | some ys,some (.rows _ xs)=>if sz=sz' then match o.fits sz.2 0 ys with
     | true=>some (.undef,⟨s.env,s.sto.put r (some (.rows sz (o.over xs ys)))⟩)
     | false=>none
    else none
   | _,_=>none
  | _,_=>none
 | .buildSlice sz agg zero len parts=>match dw s.env parts,dst with
  | some ps,some t=>
   if zero.length=sz.2 then
    match dZ zero with
    | some ds=>match D.bS agg ds with
     | some z=>match BT o s (ps.map (·.2))with
      | some (as,s)=>match pX as with
       | some xs=>match jn sz.2 (List.replicate len z) ((ps.map (·.1)).zip xs)with
        | some []=>some (.emp,s)
        | some (x::xs)=>match s.lay t [some (.rows sz (x::xs))]with
         | some s=>some (.arr (t,0) sz none true,s)
         | none=>none
        | none=>none
       | none=>none
      | none=>none
     | none=>none
    | none=>none
   else none
  | _,_=>none
 | .buildRow sz agg zero len parts=>match dw s.env parts,dst with
  | some ps,some t=>
   if zero.length=sz.2 then
    match dZ zero with
    | some ds=>match D.bS agg ds with
     | some z=>match pX (ps.map (·.2))with
      | some xs=>match jn sz.2 (List.replicate len z) ((ps.map (·.1)).zip xs)with
       | some []=>some (.emp,s)
       | some (x::xs)=>match s.lay t [some (.rows sz (x::xs))]with
        | some s=>some (.arr (t,0) sz none true,s)
        | none=>none
       | none=>none
      | none=>none
     | none=>none
    | none=>none
   else none
  | _,_=>none
 | op=>match evalOp o s.env s.sto op with
  | some (v,[])=>some (v,s)
  | some (v,e::new)=>match dst with
   | some t=>match s.lay t (e::new)with
    | some s=>some (v.map λr=>if r=(0,0)then (t,0)else r,s)
    | none=>none
   | none=>none
  | none=>none
def eD (env:List AV) (dst:Option Nat) (v:AV):List AV:=
 match dst with
 | some t=>env.set t v
 | none=>env
def wanted (env:List AV):Option (Nat×Bool)->Option Bool
 | none=>some true
 | some (t,w)=>match env[t]? with
  | some (.d (.bool b))=>some (match w with | true=>b | false=> !b)
  | some .bare=>some false
  | _=>none
def bg:List bV->St->Option St
 | [],s=>some s
 | x::l,s=>match wanted s.env x.guard with
  | some true=>match aK o s x.dst x.op with
   | some (v,s)=>bg l ⟨eD s.env x.dst v,s.sto⟩
   | none=>none
  | some false=>bg l ⟨eD s.env x.dst .bare,s.sto⟩
  | none=>none
def s9 (live:List Nat):Nat->List AV->List AV
 | _,[]=>[]
 | n,a::l=>(if live.contains n then a else .undef)::s9 live (n+1) l
def u6 (live:List Nat):Nat->bC->bC
 | _,[]=>[]
 | n,a::l=>(if live.contains n then a else [])::u6 live (n+1) l
def mask (liveE liveS:List Nat) (s:St):St:=
 ⟨AV.aP (λr=> !liveS.contains r.1) (s9 liveE 0 s.env),(u6 liveS 0 s.sto).forget λr=> !liveS.contains r.1⟩
def rowOf (own:Bool) (sz:gJ) (xs:List D):Obj:=match own with
 | true=> .orows sz xs
 | false=> .rows sz xs
def dW:List (Nat×Option Nat×Nat×gJ×Bool)->St->Option St
 | [],s=>some s
 | (t,
    none,slot,sz,own)::l,s=>match s.env[t]? with
  | some .emp=>match s.lay slot [some (rowOf own sz [])]with
   | some s=>dW l ⟨s.env.set t (.arr (slot,0) sz none false),s.sto⟩
   | none=>none
  | some (.arr r _ _ _)=>match own with
   | true=>match s.sto.get r with
    | some (.rows sz' xs)=>match o.flat xs with
     | true=>dW l ⟨s.env,s.sto.put r (some (.orows sz' xs))⟩
     | false=>none
    | _=>dW l s
   | false=>dW l s
  | _=>dW l s
 | (t,
    some c,slot,sz,own)::l,s=>match s.env[t]? with
  | some (
      .ptr r b)=>match s.sto.get r with
   | some (
       .box cs)=>match cs[b+c]? with
    | some .emp=>match s.lay slot [some (rowOf own sz [])]with
     | some s=>dW l ⟨s.env,s.sto.put r (some (.box (cs.set (b+c) (.arr (slot,0) sz none false))))⟩
     | none=>none
    | some (.arr q _ _ _)=>match own with
     | true=>match s.sto.get q with
      | some (.rows sz' xs)=>match o.flat xs with
       | true=>dW l ⟨s.env,s.sto.put q (some (.orows sz' xs))⟩
       | false=>none
      | _=>dW l s
     | false=>dW l s
    | _=>dW l s
   | _=>none
  | _=>none
def tj (g:Option (Int×Int)) (xs:List D):Option (List D):=match g with
 | none=>some xs
 | some (a,n)=>match o.isZero a with
  | true=>o.sub xs a n
  | false=>none
def BU (r:Id) (k:Nat) (q:Id) (slot:Nat) (sz:gJ) (ob:Obj) (s:St):Option St:=match (s.kill q).lay slot [some ob]with
 | some s=>match s.sto.get r with
  | some (.box cs)=>some ⟨s.env,s.sto.put r (some (.box (cs.set k (.arr (slot,0) sz none false))))⟩
  | _=>none
 | none=>none
def Gg (t:Nat) (q:Id) (slot:Nat) (sz:gJ) (ob:Obj) (s:St):Option St:=match (s.kill q).lay slot [some ob]with
 | some s=>some ⟨s.env.set t (.arr (slot,0) sz none false),s.sto⟩
 | none=>none
def xZ:Nat->Option Nat->Nat->St->Option St
 | t,some c,0,s=>match s.env[t]? with
  | some (
      .ptr r b)=>match s.sto.get r with
   | some (.box cs)=>match cs[b+c]? with
    | some x=>match fz o s x with
     | some (.d d,s)=>match s.sto.get r with
      | some (.box cs)=>some ⟨s.env,s.sto.put r (some (.box (cs.set (b+c) (.d d))))⟩
      | _=>none
     | _=>none
    | none=>none
   | _=>none
  | some (.sp cs off)=>match cut cs off c with
   | some l=>some ⟨s.env.set t (.sp l 0),s.sto⟩
   | none=>none
  | _=>some s
 | t,some c,slot+1,s=>match s.env[t]? with
  | some (
      .ptr r b)=>match s.sto.get r with
   | some (.box cs)=>match cs[b+c]? with
    | some (.arr q sz g _)=>match s.sto.get q with
     | some (.rows _ xs)=>match tj o g xs with
      | some ys=>BU r (b+c) q (slot+1) sz (.rows sz ys) s
      | none=>none
     | some (.orows _ xs)=>match tj o g xs with
      | some ys=>BU r (b+c) q (slot+1) sz (.orows sz ys) s
      | none=>none
     | _=>none
    | _=>some s
   | _=>none
  | _=>none
 | t,none,0,s=>match s.env[t]? with
  | some (.arr q sz g u)=>match fz o s (.arr q sz g u)with
   | some (.d x,s)=>some ⟨s.env.set t (.d x),s.sto⟩
   | _=>none
  | _=>some s
 | t,none,slot+1,s=>match s.env[t]? with
  | some (.arr q sz g _)=>match s.sto.get q with
   | some (.rows _ xs)=>match tj o g xs with
    | some ys=>Gg t q (slot+1) sz (.rows sz ys) s
    | none=>none
   | some (.orows _ xs)=>match tj o g xs with
    | some ys=>Gg t q (slot+1) sz (.orows sz ys) s
    | none=>none
   | _=>none
  | _=>some s
def homes:List (Nat×Option Nat×Nat)->St->Option St
 | [],s=>some s
 | (t,c,slot)::l,s=>match xZ o t c slot s with
  | some s=>homes l s
  | none=>none
def exec:VC->St->Option (Out×St)
 | .skip,s=>some (.norm,s)
 | .reg ops,s=>match bg o ops s with
  | some s=>some (.norm,s)
  | none=>none
 | .regL ops x,s=>match bg o ops s with
  | some s=>match kH o x s with
   | some s=>some (.norm,s)
   | none=>none
  | none=>none
 | .regD _ ops x ps,s=>match bg o ops s with
  | some s=>match (match x with | some x=>kH o x s | none=>some s)with
   | some s=>match homes o ps s with
    | some s=>some (.norm,s)
    | none=>none
   | none=>none
  | none=>none
 | .regP ops ps,s=>match bg o ops s with
  | some s=>match homes o ps s with
   | some s=>some (.norm,s)
   | none=>none
  | none=>none
 | .clone x y c b m t dst sz bytes _ _,s=>match s.env[x]? with
  | some a=>
        match a with
   | .d (
      .lst _) | .arr _ _ _ _=>match content o s.sto a with
    | some xs=>match o.fits sz.2 bytes xs with
     | true=>match s.lay t [some (.rows sz xs)]with
      | some s=>if y<s.env.length/\c<s.env.length/\b<s.env.length/\m<s.env.length/\t<s.env.length/\dst<s.env.length then
        some (.ret,⟨((((((s.env.set y .undef).set c .undef).set b .undef).set m .undef).set t .undef).set dst (.arr (t,0) sz none false)),s.sto⟩)
       else none
      | none=>none
     | false=>none
    | none=>none
   | _=>none
  | none=>none
 | .seq a b,s=>match exec a s with
  | some (.norm,s)=>exec b s
  | r=>r
 | .seqP a ps b,s=>match exec a s with
  | some (.norm,s)=>match homes o ps s with
   | some s=>exec b s
   | none=>none
  | r=>r
 | .cond c a b,s=>match ev s.env c with
  | some (.d (.bool t))=>match t with
   | true=>exec a s
   | false=>exec b s
  | _=>none
 | .block id c,s=>match exec c s with
  | some (.exit k,s)=>if k=id then some (.norm,s)else some (.exit k,s)
  | r=>r
 | .loop prom le ls key,s=>match dW o prom s with
  | some s=>o.loop key (mask le ls s)
  | none=>none
 | .exit id,s=>some (.exit id,s)
 | .ret,s=>some (.ret,s)
structure VL where
 liveE:List Nat
 liveS:List Nat
 outE:List Nat
 outS:List Nat
 body:VC
def u9 (T:Nat->Option VL) (key:Nat) (s:St):Option (Out×St):=
 match T key with
 | none=>none
 | some l=>match exec o l.body s with
  | some (.norm,s)=>o.loop key (mask l.liveE l.liveS s)
  | some (out,s)=>some (out,mask l.outE l.outS s)
  | none=>none
structure VF where
 ntmps:Nat
 nargs:Nat
 results:List (Sum Nat (Nat×Bool×Nat))
 body:VC
def lM (s:St):List (Sum Nat (Nat×Bool×Nat))->Option (List AV)
 | []=>some []
 | .inl t::l=>match s.env[t]?,lM s l with
  | some a,some as=>some (a::as)
  | _,_=>none
 | .inr (t,agg,n)::l=>match s.env[t]? with
  | some p=>match loadAt o s.sto agg n p,lM s l with
   | some a,some as=>some (a::as)
   | _,_=>none
  | none=>none
def pY (raw:Bool) (v:AV) (s:St):Option (AV×St):=match raw with
 | true=>some (v,s)
 | false=>fz o s v
def JR:List AV->AV
 | [x]=>x
 | rs=> .tup rs
def u_ (
    F:FuncId->Option (VF×Bool)) (f:FuncId) (as:List AV) (cs:List (Option Obj)):Option cn:=
 match F f with
 | none=>none
 | some (
     fn,
       raw)=>
  if as.length≠fn.nargs then none else
  let inn:Id->Id:=λr=>(fn.ntmps+r.2,0)
  let s0:St:=⟨AV.ol inn as++List.replicate (fn.ntmps-fn.nargs) .bare,
   List.replicate fn.ntmps []++cs.map λob=>[ob.map (·.map inn)]⟩
  match exec o fn.body s0 with
  | some (.exit _,_) | none=>none
  | some (
      _,s)=>
   match lM o s fn.results with
   | none=>none
   | some rs=>
    match pY o raw (JR rs) s with
    | none=>none
    | some (v,s)=>
     let sto:=s.sto
     let pars:=(List.range cs.length).map λi=>sto.get (fn.ntmps+i,0)
     let roots:=v.refs++pars.flatMap fun | some ob=>ob.refs | none=>[]
     match reach sto 60 (roots.filter λr=>r.1<fn.ntmps) []with
     | none=>none
     | some ids=>
      match (ids.all λr=>r.1<fn.ntmps)&&v.refs.all λr=>(sto.get r).isSome with
      | false=>none
      | true=>
       let out:Id->Id:=λr=>if r.1<fn.ntmps then (0,idx ids r)else (1,r.1-fn.ntmps)
       some ⟨v.map out,pars.map λob=>ob.map (·.map out),(ids.map λr=>(sto.get r).map (·.map out))⟩
end
end Go.Vi
