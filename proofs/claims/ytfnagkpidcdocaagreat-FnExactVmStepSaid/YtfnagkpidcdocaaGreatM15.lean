import Derived.Test.YtfnagkpidcdocaaGreatM00
set_option linter.all false
namespace T2
open Go.Vi
instance (n:Nat):OfNat VX n:=⟨.tmp n⟩
abbrev Wi (n:Int):VX:= .const (.d (.int .i64 n))
abbrev Wb (n:Int):VX:= .const (.d (.int .u8 n))
abbrev Wt:VX:= .const (.d (.bool true))
abbrev Wf:VX:= .const (.d (.bool false))
abbrev Ws (s:Array UInt8):VX:= .const (.d (.str ⟨s⟩))
abbrev W (d:Nat) (o:lZ):a_:=⟨some d,none,o⟩
abbrev Wn (o:lZ):a_:=⟨none,none,o⟩
abbrev Wg (d g:Nat) (b:Bool) (o:lZ):a_:=⟨some d,some (g,b),o⟩
abbrev Wm (d:Nat) (x:VX):a_:=⟨some d,none,.move x⟩
abbrev Wp (d:Nat) (a b c:VX):a_:=⟨some d,none,.pick a b c⟩
abbrev Wx (d:Nat) (x:VX) (i:Nat):a_:=⟨some d,none,.extract x i⟩
abbrev Wl (d n:Nat) (x:VX):a_:=⟨some d,none,.load true n x⟩
abbrev Wk (d:Nat) (x:VX):a_:=⟨some d,none,.load false 1 x⟩
abbrev Wh (d f:Nat) (x:VX):a_:=⟨some d,none,.fieldAddr f x⟩
abbrev We (d:Nat) (p:Go.BinOp) (x y:VX):a_:=⟨some d,none,.bin false p x y⟩
abbrev Wr (n:Nat) (x y:VX):a_:=⟨none,none,.store n x y⟩
abbrev Wc (d f:Nat) (m:kP) (r:Bool) (l:List VX):a_:=⟨some d,none,.call f m r l⟩
abbrev Wu (g:Nat) (o:a_):a_:=⟨o.dst,some (g,true),o.op⟩
abbrev Wv (g:Nat) (o:a_):a_:=⟨o.dst,some (g,false),o.op⟩
abbrev Wy (d:Nat) (x y:VX):a_:=⟨some d,none,.bin false .eql x y⟩
abbrev Wa (d a b:Nat) (x i:VX):a_:=⟨some d,none,.indexAddr (a,b) x i⟩
abbrev Ww (d:Nat) (x:VX):a_:=⟨some d,none,.len false x⟩
abbrev Wz:List AV:=[.d (.int .i64 0),.d (.int .i64 0),.d (.str ⟨#[]⟩),.emp]
abbrev Wo:AV:= .d (.int .i64 0)
abbrev Wd (c:VX) (a:VC):VC:= .cond c a .skip
abbrev Xa (d f:Nat) (l:List VX):a_:=⟨some d,none,.call f .frz true l⟩
abbrev Xb (d f:Nat) (l:List VX):a_:=⟨some d,none,.call f .frz false l⟩
abbrev Xc (d f:Nat) (l:List VX):a_:=⟨some d,none,.call f .ref false l⟩
abbrev Xd (d f:Nat) (l:List VX):a_:=⟨some d,none,.call f .pure false l⟩
abbrev Xe (d f:Nat) (l:List VX):a_:=⟨some d,none,.call f .bor false l⟩
abbrev Xf (d f:Nat) (l:List VX):a_:=⟨some d,none,.call f .bor true l⟩
abbrev Xg (d f:Nat) (l:List VX):a_:=⟨some d,none,.call f .ref true l⟩
instance:Coe (List a_) VC:=⟨.reg⟩
def Xr:Nat->Nat->List Nat
 | _,0=>[]
 | a,n+1=>a::Xr (a+1) n
def Wq:List VC->VC
 | []=> .skip
 | [a]=>a
 | a::b::l=> .seq a (Wq (b::l))
end T2
