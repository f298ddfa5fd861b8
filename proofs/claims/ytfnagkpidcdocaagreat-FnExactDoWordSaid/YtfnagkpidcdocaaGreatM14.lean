import Derived.Test.YtfnagkpidcdocaaGreatM13
set_option linter.all false
namespace Go.Vi
open Go
def jx (x a b:Int):Bool:=decide (a<=x)&&decide (x<=b)
theorem cL {x a b:Int} (h:jx x a b=true):a<=x/\x<=b:=by simpa [jx]using h
theorem r9 {x a b:Int} (h:jx x a b=false):¬(a<=x/\x<=b):=by intro g;simp[jx,g]at h
theorem fN {x a b:Int} (h:a<=x/\x<=b):jx x a b=true:=by simp[jx,h]
theorem kJ {x a b:Int} (h:¬(a<=x/\x<=b)):jx x a b=false:=by cases e:jx x a b;rfl;exact absurd (cL e) h
theorem aX (x a b:Int):(jx x a b=false/\¬(a<=x/\x<=b))\/(jx x a b=true/\a<=x/\x<=b):=by cases h:jx x a b;exact .inl ⟨rfl,r9 h⟩;exact .inr ⟨rfl,cL h⟩
def QK (P:Int->Bool) (i:Int):Nat->Bool
 | 0=>true
 | k+1=>P i&&QK P (i+1) k
def fR (P:Int->Bool) (i n:Int):Bool:=QK P i (n-i).toNat
theorem jb {P:Int->Bool} {i n:Int} (h:n<=i):fR P i n=true:=by unfold fR;rw[show (n-i).toNat=0 by omega];rfl
theorem tY {P:Int->Bool} {i n:Int} (h:i<n):fR P i n=(P i&&fR P (i+1) n):=by unfold fR;rw[show (n-i).toNat=(n-(i+1)).toNat+1 by omega];rfl
theorem mO {P:Int->Bool} {i n:Int} (h:i<n) (e:P i=true):fR P i n=fR P (i+1) n:=by rw[tY h,e];rfl
theorem nT {P:Int->Bool} {i n:Int} (h:i<n) (e:P i=false):fR P i n=false:=by rw[tY h,e];rfl
theorem Ox {P Q:Int->Bool} {n:Int} (h:∀i,0<=i->i<n->P i=Q i):∀i,0<=i->i<=n->fR P i n=fR Q i n:=
 down n (by rw[jb (Int.le_refl n),jb (Int.le_refl n)]) λi j e E=>by rw[tY e,tY e,h i j e,E]
theorem CQ {P:Int->Bool} {n:Int} (h:fR P 0 n=true):∀i,0<=i->i<n->P i=true:=by
 by_cases M:0<=n
 ·have:∀i,0<=i->i<=n->fR P i n=true->∀j,i<=j->j<n->P j=true:=by
   refine down (P:=λi=>fR P i n=true->∀j,i<=j->j<n->P j=true) n ?_ ?_
   ·intro _ j E O;omega
   intro i I E S J j O h3;rw[tY E,af]at J;by_cases e:j=i
   ·rw[e];exact J.1
   exact S J.2 j (by omega) h3
  intro i I E;exact this 0 (by omega) M h i I E
 intro i I E;omega
def KD (P:Int->Bool) (i:Int):Nat->Int
 | 0=> -1
 | k+1=>if P i then i else KD P (i+1) k
def gL (P:Int->Bool) (i n:Int):Int:=KD P i (n-i).toNat
theorem oY {P:Int->Bool} {i n:Int} (h:n<=i):gL P i n= -1:=by unfold gL;rw[show (n-i).toNat=0 by omega];rfl
theorem wG {P:Int->Bool} {i n:Int} (h:i<n) (e:P i=true):gL P i n=i:=by unfold gL;rw[show (n-i).toNat=(n-(i+1)).toNat+1 by omega];simp[KD,e]
theorem wH {P:Int->Bool} {i n:Int} (h:i<n) (e:P i=false):gL P i n=gL P (i+1) n:=by unfold gL;rw[show (n-i).toNat=(n-(i+1)).toNat+1 by omega];simp[KD,e]
theorem Oy {P:Int->Bool} {n:Int} (I:0<=n):∀i,0<=i->i<=n->gL P i n= -1\/(i<=gL P i n/\gL P i n<n/\P (gL P i n)=true):=by
 refine down (P:=λi=>gL P i n= -1\/(i<=gL P i n/\gL P i n<n/\P (gL P i n)=true)) n (.inl (oY (Int.le_refl n))) ?_;intro i J e E;cases j:P i
 ·rw[wH e j];rcases E with h | ⟨a,b,c⟩
  ·exact .inl h
  exact .inr ⟨by omega,b,c⟩
 rw[wG e j];exact .inr ⟨Int.le_refl _,e,j⟩
theorem cM {P:Int->Prop} (n:Int) (e:∀i,0<=i->i<=n->(i<n->P (i+1))->P i):∀i,0<=i->i<=n->P i:=by
 intro i j E;refine down n (e n (by omega) (Int.le_refl _) λh=>by omega) (λi a b I=>e i a (by omega) λ_=>I) i j E
theorem bL {xs:Lq} {n i:Int} (e:(xs.length:Int)=n) (h:n<=i):xs.drop i.toNat=[]:=List.drop_eq_nil_of_le (by omega)
def bT (f:D->Int):Lq->Int
 | []=>0
 | x::xs=>f x+bT f xs
theorem fj {f:D->Int} (hf:∀x,1<=f x):∀xs,0<=bT f xs
 | []=>Int.le_refl _
 | x::xs=>by have:=fj hf xs;have:=hf x;simp only[bT];omega
theorem kx {α:Type} (a:α):∃v,a=v:=⟨a,rfl⟩
theorem aQ.aL {F:FuncId->Option (VF×Bool)} {T:Nat->Option VL} {o:aM} (ho:aQ F T o) {f as cs s} (h:∀R,some s=R->u_ o F f as cs=R):o.call f as cs=some s:=ho.aj (h _ rfl)
theorem aQ.fA {F:FuncId->Option (VF×Bool)} {T:Nat->Option VL} {o:aM} (ho:aQ F T o) {k s z} (h:∀R,some z=R->u9 o T k s=R):o.loop k s=some z:=ho.aB (h _ rfl)
section
variable {F:FuncId->Option (VF×Bool)} {T:Nat->Option VL} {o:aM} (ho:aQ F T o)
include ho
theorem bk (a b:Int) (e: -9223372036854775808<=a+b:=by omega) (j:a+b<=9223372036854775807:=by omega):∃n:Int,o.ar .add .i64 a b=n/\n=a+b:=⟨_,rfl,dm ho e j⟩
theorem aU (a b:Int) (e: -9223372036854775808<=a-b:=by omega) (j:a-b<=9223372036854775807:=by omega):∃n:Int,o.ar .sub .i64 a b=n/\n=a-b:=⟨_,rfl,gj ho e j⟩
theorem dF (a b:Int) (h:a=b:=by omega):o.cmp .eql a b=true:=cX ho h
theorem au (a b:Int) (h:a≠b:=by omega):o.cmp .eql a b=false:=bN ho h
theorem bn (a b:Int):(o.cmp .lss a b=false/\b<=a)\/(o.cmp .lss a b=true/\a<b):=by cases h:o.cmp .lss a b;exact .inl ⟨rfl,P_ ho h⟩;exact .inr ⟨rfl,Ta ho h⟩
theorem iz (a b:Int):(o.cmp .leq a b=false/\b<a)\/(o.cmp .leq a b=true/\a<=b):=by cases h:o.cmp .leq a b;exact .inl ⟨rfl,Tc ho h⟩;exact .inr ⟨rfl,Tb ho h⟩
theorem fB (a b:Int):(o.cmp .gtr a b=false/\a<=b)\/(o.cmp .gtr a b=true/\b<a):=by cases h:o.cmp .gtr a b;exact .inl ⟨rfl,Te ho h⟩;exact .inr ⟨rfl,Td ho h⟩
theorem jc (a b:Int):(o.cmp .geq a b=false/\a<b)\/(o.cmp .geq a b=true/\b<=a):=by cases h:o.cmp .geq a b;exact .inl ⟨rfl,Tg ho h⟩;exact .inr ⟨rfl,Tf ho h⟩
theorem av (a b:Int):(o.cmp .eql a b=false/\a≠b)\/(o.cmp .eql a b=true/\a=b):=by cases h:o.cmp .eql a b;exact .inl ⟨rfl,lY ho h⟩;exact .inr ⟨rfl,Qa ho h⟩
theorem cD (a b:Int):(o.cmp .neq a b=false/\a=b)\/(o.cmp .neq a b=true/\a≠b):=by cases h:o.cmp .neq a b;exact .inl ⟨rfl,Tj ho h⟩;exact .inr ⟨rfl,Ti ho h⟩
theorem aR (a b:By):(o.eZ .eql a b=false/\a≠b)\/(o.eZ .eql a b=true/\a=b):=by cases h:o.eZ .eql a b;exact .inl ⟨rfl,Tl ho h⟩;exact .inr ⟨rfl,Tk ho h⟩
theorem rE (a b:By):(o.eZ .neq a b=false/\a=b)\/(o.eZ .neq a b=true/\a≠b):=by cases h:o.eZ .neq a b;exact .inl ⟨rfl,Tp ho h⟩;exact .inr ⟨rfl,Tn ho h⟩
theorem aC (xs:Lq):∃n:Int,o.len xs=n/\n=xs.length:=⟨_,rfl,jA ho xs⟩
theorem Bd (s:By):∃n:Int,o.sLen s=n/\n=s.size:=⟨_,rfl,P9 ho s⟩
end
end Go.Vi
