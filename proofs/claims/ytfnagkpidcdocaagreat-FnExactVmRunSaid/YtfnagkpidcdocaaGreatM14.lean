import Derived.Test.YtfnagkpidcdocaaGreatM00
set_option linter.all false
namespace T2
open Go.Vi
instance (n:Nat):OfNat VX n:=⟨.tmp n⟩
abbrev Wi (n:Int):VX:= .const (.d (.int .i64 n))
abbrev Wb (n:Int):VX:= .const (.d (.int .u8 n))
abbrev Wt:VX:= .const (.d (.bool true))
abbrev Wf:VX:= .const (.d (.bool false))
abbrev Ws (s:Array UInt8):VX:= .const (.d (.str ⟨s⟩))
abbrev W (d:Nat) (o:lp):br:=⟨some d,none,o⟩
abbrev Wn (o:lp):br:=⟨none,none,o⟩
abbrev Wg (d g:Nat) (b:Bool) (o:lp):br:=⟨some d,some (g,b),o⟩
abbrev Wm (d:Nat) (x:VX):br:=⟨some d,none,.move x⟩
abbrev Wp (d:Nat) (a b c:VX):br:=⟨some d,none,.pick a b c⟩
abbrev Wx (d:Nat) (x:VX) (i:Nat):br:=⟨some d,none,.extract x i⟩
abbrev Wl (d n:Nat) (x:VX):br:=⟨some d,none,.load true n x⟩
abbrev Wk (d:Nat) (x:VX):br:=⟨some d,none,.load false 1 x⟩
abbrev Wh (d f:Nat) (x:VX):br:=⟨some d,none,.fieldAddr f x⟩
abbrev We (d:Nat) (p:Go.BinOp) (x y:VX):br:=⟨some d,none,.bin false p x y⟩
abbrev Wr (n:Nat) (x y:VX):br:=⟨none,none,.store n x y⟩
abbrev Wc (d f:Nat) (m:kH) (r:Bool) (l:List VX):br:=⟨some d,none,.call f m r l⟩
abbrev Wu (d g:Nat) (o:lp):br:=⟨some d,some (g,true),o⟩
abbrev Wv (d g:Nat) (o:lp):br:=⟨some d,some (g,false),o⟩
abbrev Wy (d:Nat) (x y:VX):br:=⟨some d,none,.bin false .eql x y⟩
abbrev Wa (d a b:Nat) (x i:VX):br:=⟨some d,none,.indexAddr (a,b) x i⟩
abbrev Ww (d:Nat) (x:VX):br:=⟨some d,none,.len false x⟩
abbrev Wz:List AV:=[.d (.int .i64 0),.d (.int .i64 0),.d (.str ⟨#[]⟩),.emp]
abbrev Wo:AV:= .d (.int .i64 0)
abbrev Wd (c:VX) (a:VC):VC:= .cond c a .skip
def Wq:List VC->VC
 | []=> .skip
 | [a]=>a
 | a::b::l=> .seq a (Wq (b::l))
end T2
