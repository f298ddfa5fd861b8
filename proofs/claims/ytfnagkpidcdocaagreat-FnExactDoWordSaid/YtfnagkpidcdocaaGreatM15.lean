import Derived.Test.YtfnagkpidcdocaaGreatM00
set_option linter.all false
namespace T2
open Go.Vi
instance (n:Nat):OfNat VX n:=⟨.tmp n⟩
abbrev Wi (n:Int):VX:= .const (.d (.int .i64 n))
abbrev Wb (n:Int):VX:= .const (.d (.int .u8 n))
abbrev Wt:VX:= .const (.d (.bool true))
abbrev Wf:VX:= .const (.d (.bool false))
abbrev Ws (s:Array UInt8):VX:= .const (.d (.str ⟨s⟩))
abbrev Wz:List AV:=[.d (.int .i64 0),.d (.int .i64 0),.d (.str ⟨#[]⟩),.emp]
abbrev Wo:AV:= .d (.int .i64 0)
abbrev Wd (c:VX) (a:VC):VC:= .cond c a .skip
structure El where
 f:Nat->List bV×Nat
def Rl:Nat->List El->List bV×Nat
 | n,[]=>([],n)
 | n,e::l=>match e.f n with
  | (a,n)=>match Rl n l with
   | (b,n)=>(a++b,n)
def Ql (l:List El):List bV:=(Rl 0 l).1
instance:Coe (List El) (List bV):=⟨Ql⟩
instance:Coe (List El) VC:=⟨λl=> .reg (Ql l)⟩
def Xr:Nat->Nat->List Nat
 | _,0=>[]
 | a,n+1=>a::Xr (a+1) n
def Wq:List VC->VC
 | []=> .skip
 | [a]=>a
 | a::b::l=> .seq a (Wq (b::l))
abbrev Yt (v:VF):Option (VF×Bool):=some (v,true)
abbrev Yf (v:VF):Option (VF×Bool):=some (v,false)
end T2
namespace Go.W9
open Go.Vi T2
def W (d:Nat) (o:mg):El:=⟨λ_=>([⟨some d,none,o⟩],d+1)⟩
def Wn (o:mg):El:=⟨λn=>([⟨none,none,o⟩],n)⟩
def Wr (n:Nat) (x y:VX):El:=Wn (.store n x y)
def z (o:mg):El:=⟨λn=>([⟨some n,none,o⟩],n+1)⟩
def zz (o:mg) (q:VX->mg):El:=⟨λn=>([⟨some n,none,o⟩,⟨some (n+1),none,q (.tmp n)⟩],n+2)⟩
def u (g:Nat) (b:Bool) (l:List El):El:=⟨λn=>match Rl n l with | (a,k)=>(a.map λo=>⟨o.dst,some (g,b),o.op⟩,k)⟩
abbrev v (g:Nat) (l:List El):El:=u g true l
abbrev w (g:Nat) (l:List El):El:=u g false l
def m (x:VX):El:=z (.move x)
def mW (d:Nat) (x:VX):El:=W d (.move x)
def p (a b c:VX):El:=z (.pick a b c)
def pW (d:Nat) (a b c:VX):El:=W d (.pick a b c)
def x (x:VX) (i:Nat):El:=z (.extract x i)
def xW (d:Nat) (x:VX) (i:Nat):El:=W d (.extract x i)
def l (n:Nat) (x:VX):El:=z (.load true n x)
def lW (d n:Nat) (x:VX):El:=W d (.load true n x)
def k (x:VX):El:=z (.load false 1 x)
def kW (d:Nat) (x:VX):El:=W d (.load false 1 x)
def h (f:Nat) (x:VX):El:=z (.fieldAddr f x)
def hW (d f:Nat) (x:VX):El:=W d (.fieldAddr f x)
def y (a b:VX):El:=z (.bin false .eql a b)
def yW (d:Nat) (a b:VX):El:=W d (.bin false .eql a b)
def e (p:Go.BinOp) (a b:VX):El:=z (.bin false p a b)
def eW (d:Nat) (p:Go.BinOp) (a b:VX):El:=W d (.bin false p a b)
def a (a b:Nat) (x i:VX):El:=z (.indexAddr (a,b) x i)
def aW (d a b:Nat) (x i:VX):El:=W d (.indexAddr (a,b) x i)
def n (x:VX):El:=z (.len false x)
def nW (d:Nat) (x:VX):El:=W d (.len false x)
def q (x:VX):El:=z (.not x)
def qW (d:Nat) (x:VX):El:=W d (.not x)
def ca (f:Nat) (l:List VX):El:=z (.call f .frz true l)
def Xk (d f:Nat) (l:List VX):El:=W d (.call f .frz true l)
def cb (f:Nat) (l:List VX):El:=z (.call f .frz false l)
def Xl (d f:Nat) (l:List VX):El:=W d (.call f .frz false l)
def cc (f:Nat) (l:List VX):El:=z (.call f .ref false l)
def Xa (d f:Nat) (l:List VX):El:=W d (.call f .ref false l)
def cd (f:Nat) (l:List VX):El:=z (.call f .pure false l)
def Xb (d f:Nat) (l:List VX):El:=W d (.call f .pure false l)
def ce (f:Nat) (l:List VX):El:=z (.call f .bor false l)
def Xm (d f:Nat) (l:List VX):El:=W d (.call f .bor false l)
def cf (f:Nat) (l:List VX):El:=z (.call f .bor true l)
def Xn (d f:Nat) (l:List VX):El:=W d (.call f .bor true l)
def cg (f:Nat) (l:List VX):El:=z (.call f .ref true l)
def Xo (d f:Nat) (l:List VX):El:=W d (.call f .ref true l)
def ah (j a b:Nat) (x i:VX):El:=zz (.indexAddr (a,b) x i) λq=> .fieldAddr j q
def ak (a b:Nat) (x i:VX):El:=zz (.indexAddr (a,b) x i) λq=> .load false 1 q
def al (j a b:Nat) (x i:VX):El:=zz (.indexAddr (a,b) x i) λq=> .load true j q
def D8 (f:Nat) (l:List VX):El:=zz (.call f .pure false l) λq=> .move q
def qp (f:Nat) (l:List VX):El:=zz (.call f .pure false l) λq=> .not q
def CP (f:Nat) (l:List VX):El:=zz (.call f .bor false l) λq=> .not q
def hh (j f:Nat) (x:VX):El:=zz (.fieldAddr f x) λq=> .fieldAddr j q
def hk (f:Nat) (x:VX):El:=zz (.fieldAddr f x) λq=> .load false 1 q
def hl (j f:Nat) (x:VX):El:=zz (.fieldAddr f x) λq=> .load true j q
def km (x:VX):El:=zz (.load false 1 x) λq=> .move q
def kn (x:VX):El:=zz (.load false 1 x) λq=> .len false q
def mh (j:Nat) (x:VX):El:=zz (.move x) λq=> .fieldAddr j q
def mn (x:VX):El:=zz (.move x) λq=> .len false q
end Go.W9
