import Derived.Test.YtfnagkpidcdocaaGreatM13
set_option linter.all false
namespace Go.Vi
open Go
def iK (x a b:Int):Bool:=decide (a<=x)&&decide (x<=b)
theorem bH {x a b:Int} (h:iK x a b=true):a<=x/\x<=b:=by simpa [iK]using h
theorem qb {x a b:Int} (h:iK x a b=false):¬(a<=x/\x<=b):=by intro g;simp[iK,g]at h
theorem dr {x a b:Int} (h:a<=x/\x<=b):iK x a b=true:=by simp[iK,h]
theorem jd {x a b:Int} (h:¬(a<=x/\x<=b)):iK x a b=false:=by cases e:iK x a b;rfl;exact absurd (bH e) h
theorem aN (x a b:Int):(iK x a b=false/\¬(a<=x/\x<=b))\/(iK x a b=true/\a<=x/\x<=b):=by cases h:iK x a b;exact .inl ⟨rfl,qb h⟩;exact .inr ⟨rfl,bH h⟩
def MU (P:Int->Bool) (i:Int):Nat->Bool
 | 0=>true
 | k+1=>P i&&MU P (i+1) k
def fe (P:Int->Bool) (i n:Int):Bool:=MU P i (n-i).toNat
theorem iM {P:Int->Bool} {i n:Int} (h:n<=i):fe P i n=true:=by unfold fe;rw[show (n-i).toNat=0 by omega];rfl
theorem sH {P:Int->Bool} {i n:Int} (h:i<n):fe P i n=(P i&&fe P (i+1) n):=by unfold fe;rw[show (n-i).toNat=(n-(i+1)).toNat+1 by omega];rfl
theorem lW {P:Int->Bool} {i n:Int} (h:i<n) (hp:P i=true):fe P i n=fe P (i+1) n:=by rw[sH h,hp];rfl
theorem mT {P:Int->Bool} {i n:Int} (h:i<n) (hp:P i=false):fe P i n=false:=by rw[sH h,hp];rfl
theorem KV {P Q:Int->Bool} {n:Int} (h:∀i,0<=i->i<n->P i=Q i):∀i,0<=i->i<=n->fe P i n=fe Q i n:=
 down n (by rw[iM (Int.le_refl n),iM (Int.le_refl n)]) λi h0 h1 ih=>by rw[sH h1,sH h1,h i h0 h1,ih]
theorem zR {P:Int->Bool} {n:Int} (h:fe P 0 n=true):∀i,0<=i->i<n->P i=true:=by
 by_cases hn:0<=n
 ·have:∀i,0<=i->i<=n->fe P i n=true->∀j,i<=j->j<n->P j=true:=by
   refine down (P:=λi=>fe P i n=true->∀j,i<=j->j<n->P j=true) n ?_ ?_
   ·intro _ j h1 h2;omega
   ·intro i h0 h1 ih ha j h2 h3;rw[sH h1,af]at ha;by_cases e:j=i
    ·rw[e];exact ha.1
    ·exact ih ha.2 j (by omega) h3
  intro i h0 h1;exact this 0 (by omega) hn h i h0 h1
 ·intro i h0 h1;omega
def G9 (P:Int->Bool) (i:Int):Nat->Int
 | 0=> -1
 | k+1=>if P i then i else G9 P (i+1) k
def jB (P:Int->Bool) (i n:Int):Int:=G9 P i (n-i).toNat
theorem uT {P:Int->Bool} {i n:Int} (h:n<=i):jB P i n= -1:=by unfold jB;rw[show (n-i).toNat=0 by omega];rfl
theorem Bj {P:Int->Bool} {i n:Int} (h:i<n) (hp:P i=true):jB P i n=i:=by unfold jB;rw[show (n-i).toNat=(n-(i+1)).toNat+1 by omega];simp[G9,hp]
theorem Bk {P:Int->Bool} {i n:Int} (h:i<n) (hp:P i=false):jB P i n=jB P (i+1) n:=by unfold jB;rw[show (n-i).toNat=(n-(i+1)).toNat+1 by omega];simp[G9,hp]
theorem En {P:Int->Bool} {n:Int} (hn:0<=n):∀i,0<=i->i<=n->jB P i n= -1\/(i<=jB P i n/\jB P i n<n/\P (jB P i n)=true):=by
 refine down (P:=λi=>jB P i n= -1\/(i<=jB P i n/\jB P i n<n/\P (jB P i n)=true)) n (.inl (uT (Int.le_refl n))) ?_;intro i h0 h1 ih;cases hp:P i
 ·rw[Bk h1 hp];rcases ih with h | ⟨a,b,c⟩
  ·exact .inl h
  ·exact .inr ⟨by omega,b,c⟩
 ·rw[Bj h1 hp];exact .inr ⟨Int.le_refl _,h1,hp⟩
theorem bV {P:Int->Prop} (n:Int) (hs:∀i,0<=i->i<=n->(i<n->P (i+1))->P i):∀i,0<=i->i<=n->P i:=by
 intro i h0 h1;refine down n (hs n (by omega) (Int.le_refl _) λh=>by omega) (λi a b ih=>hs i a (by omega) λ_=>ih) i h0 h1
theorem bf {xs:List D} {n i:Int} (hn:(xs.length:Int)=n) (h:n<=i):xs.drop i.toNat=[]:=List.drop_eq_nil_of_le (by omega)
def bI (f:D->Int):List D->Int
 | []=>0
 | x::xs=>f x+bI f xs
theorem eL {f:D->Int} (hf:∀x,1<=f x):∀xs,0<=bI f xs
 | []=>Int.le_refl _
 | x::xs=>by have:=eL hf xs;have:=hf x;simp only[bI];omega
theorem kx {α:Type} (a:α):∃v,a=v:=⟨a,rfl⟩
theorem aR.aC {F:FuncId->Option (VF×Bool)} {T:Nat->Option VL} {o:aJ} (ho:aR F T o) {f as cs s} (h:∀R,some s=R->tU o F f as cs=R):o.call f as cs=some s:=ho.au (h _ rfl)
theorem aR.dO {F:FuncId->Option (VF×Bool)} {T:Nat->Option VL} {o:aJ} (ho:aR F T o) {k s z} (h:∀R,some z=R->tT o T k s=R):o.loop k s=some z:=ho.aB (h _ rfl)
section
variable {F:FuncId->Option (VF×Bool)} {T:Nat->Option VL} {o:aJ} (ho:aR F T o)
include ho
theorem aW (a b:Int) (h1: -9223372036854775808<=a+b:=by omega) (h2:a+b<=9223372036854775807:=by omega):∃n:Int,o.ar .add .i64 a b=n/\n=a+b:=⟨_,rfl,ck ho h1 h2⟩
theorem aO (a b:Int) (h1: -9223372036854775808<=a-b:=by omega) (h2:a-b<=9223372036854775807:=by omega):∃n:Int,o.ar .sub .i64 a b=n/\n=a-b:=⟨_,rfl,dB ho h1 h2⟩
theorem cU (a b:Int) (h:a=b:=by omega):o.cmp .eql a b=true:=cw ho h
theorem ai (a b:Int) (h:a≠b:=by omega):o.cmp .eql a b=false:=bC ho h
theorem aZ (a b:Int):(o.cmp .lss a b=false/\b<=a)\/(o.cmp .lss a b=true/\a<b):=by cases h:o.cmp .lss a b;exact .inl ⟨rfl,Mp ho h⟩;exact .inr ⟨rfl,Pk ho h⟩
theorem jT (a b:Int):(o.cmp .leq a b=false/\b<a)\/(o.cmp .leq a b=true/\a<=b):=by cases h:o.cmp .leq a b;exact .inl ⟨rfl,Pn ho h⟩;exact .inr ⟨rfl,Pm ho h⟩
theorem fR (a b:Int):(o.cmp .gtr a b=false/\a<=b)\/(o.cmp .gtr a b=true/\b<a):=by cases h:o.cmp .gtr a b;exact .inl ⟨rfl,Pp ho h⟩;exact .inr ⟨rfl,Po ho h⟩
theorem je (a b:Int):(o.cmp .geq a b=false/\a<b)\/(o.cmp .geq a b=true/\b<=a):=by cases h:o.cmp .geq a b;exact .inl ⟨rfl,Pr ho h⟩;exact .inr ⟨rfl,Pq ho h⟩
theorem aj (a b:Int):(o.cmp .eql a b=false/\a≠b)\/(o.cmp .eql a b=true/\a=b):=by cases h:o.cmp .eql a b;exact .inl ⟨rfl,k_ ho h⟩;exact .inr ⟨rfl,Mq ho h⟩
theorem cE (a b:Int):(o.cmp .neq a b=false/\a=b)\/(o.cmp .neq a b=true/\a≠b):=by cases h:o.cmp .neq a b;exact .inl ⟨rfl,Pu ho h⟩;exact .inr ⟨rfl,Pt ho h⟩
theorem aP (a b:ByteArray):(o.gM .eql a b=false/\a≠b)\/(o.gM .eql a b=true/\a=b):=by cases h:o.gM .eql a b;exact .inl ⟨rfl,Pw ho h⟩;exact .inr ⟨rfl,Pv ho h⟩
theorem qk (a b:ByteArray):(o.gM .neq a b=false/\a=b)\/(o.gM .neq a b=true/\a≠b):=by cases h:o.gM .neq a b;exact .inl ⟨rfl,Py ho h⟩;exact .inr ⟨rfl,Px ho h⟩
theorem ay (xs:List D):∃n:Int,o.len xs=n/\n=xs.length:=⟨_,rfl,iI ho xs⟩
theorem ye (s:ByteArray):∃n:Int,o.sLen s=n/\n=s.size:=⟨_,rfl,Mn ho s⟩
end
end Go.Vi
