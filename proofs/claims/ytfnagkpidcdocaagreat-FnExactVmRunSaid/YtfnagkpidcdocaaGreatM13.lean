import Derived.Test.YtfnagkpidcdocaaGreatM12
set_option linter.all false
namespace Go.Vi
open Go
def i_ (x a b:Int):Bool:=decide (a<=x)&&decide (x<=b)
theorem cT {x a b:Int} (h:i_ x a b=true):a<=x/\x<=b:=by simpa [i_]using h
theorem EB {x a b:Int} (h:i_ x a b=false):¬(a<=x/\x<=b):=by intro g;simp [i_,g]at h
theorem eO {x a b:Int} (h:a<=x/\x<=b):i_ x a b=true:=by simp [i_,h]
theorem jx {x a b:Int} (h:¬(a<=x/\x<=b)):i_ x a b=false:=by cases e:i_ x a b;rfl;exact absurd (cT e) h
theorem aR (x a b:Int):(i_ x a b=false/\¬(a<=x/\x<=b))\/(i_ x a b=true/\a<=x/\x<=b):=by cases h:i_ x a b;exact .inl ⟨rfl,EB h⟩;exact .inr ⟨rfl,cT h⟩
def Ml (P:Int->Bool) (i:Int):Nat->Bool
 | 0=>true
 | k+1=>P i&&Ml P (i+1) k
def eU (P:Int->Bool) (i n:Int):Bool:=Ml P i (n-i).toNat
theorem iq {P:Int->Bool} {i n:Int} (h:n<=i):eU P i n=true:=by unfold eU;rw [show (n-i).toNat=0 by omega];rfl
theorem rq {P:Int->Bool} {i n:Int} (h:i<n):eU P i n=(P i&&eU P (i+1) n):=by unfold eU;rw [show (n-i).toNat=(n-(i+1)).toNat+1 by omega];rfl
theorem kR {P:Int->Bool} {i n:Int} (h:i<n) (hp:P i=true):eU P i n=eU P (i+1) n:=by rw [rq h,hp];rfl
theorem lZ {P:Int->Bool} {i n:Int} (h:i<n) (hp:P i=false):eU P i n=false:=by rw [rq h,hp];rfl
theorem Kz {P Q:Int->Bool} {n:Int} (h:∀i,0<=i->i<n->P i=Q i):∀i,0<=i->i<=n->eU P i n=eU Q i n:=
 down n (by rw [iq (Int.le_refl n),iq (Int.le_refl n)]) fun i h0 h1 ih=>by rw [rq h1,rq h1,h i h0 h1,ih]
theorem zG {P:Int->Bool} {n:Int} (h:eU P 0 n=true):∀i,0<=i->i<n->P i=true:=by
 by_cases hn:0<=n
 ·have:∀i,0<=i->i<=n->eU P i n=true->∀j,i<=j->j<n->P j=true:=by
   refine down (P:=fun i=>eU P i n=true->∀j,i<=j->j<n->P j=true) n ?_ ?_
   ·intro _ j h1 h2;omega
   ·intro i h0 h1 ih ha j h2 h3;rw [rq h1,ah]at ha;by_cases e:j=i
    ·rw [e];exact ha.1
    ·exact ih ha.2 j (by omega) h3
  intro i h0 h1;exact this 0 (by omega) hn h i h0 h1
 ·intro i h0 h1;omega
def Hl (P:Int->Bool) (i:Int):Nat->Int
 | 0=> -1
 | k+1=>if P i then i else Hl P (i+1) k
def jk (P:Int->Bool) (i n:Int):Int:=Hl P i (n-i).toNat
theorem ug {P:Int->Bool} {i n:Int} (h:n<=i):jk P i n= -1:=by unfold jk;rw [show (n-i).toNat=0 by omega];rfl
theorem Bn {P:Int->Bool} {i n:Int} (h:i<n) (hp:P i=true):jk P i n=i:=by unfold jk;rw [show (n-i).toNat=(n-(i+1)).toNat+1 by omega];simp [Hl,hp]
theorem Bo {P:Int->Bool} {i n:Int} (h:i<n) (hp:P i=false):jk P i n=jk P (i+1) n:=by unfold jk;rw [show (n-i).toNat=(n-(i+1)).toNat+1 by omega];simp [Hl,hp]
theorem KA {P:Int->Bool} {n:Int} (hn:0<=n):∀i,0<=i->i<=n->jk P i n= -1\/(i<=jk P i n/\jk P i n<n/\P (jk P i n)=true):=by
 refine down (P:=fun i=>jk P i n= -1\/(i<=jk P i n/\jk P i n<n/\P (jk P i n)=true)) n (.inl (ug (Int.le_refl n))) ?_;intro i h0 h1 ih;cases hp:P i
 ·rw [Bo h1 hp];rcases ih with h | ⟨a,b,c⟩
  ·exact .inl h
  ·exact .inr ⟨by omega,b,c⟩
 ·rw [Bn h1 hp];exact .inr ⟨Int.le_refl _,h1,hp⟩
theorem cU {P:Int->Prop} (n:Int) (hs:∀i,0<=i->i<=n->(i<n->P (i+1))->P i):∀i,0<=i->i<=n->P i:=by
 intro i h0 h1;refine down n (hs n (by omega) (Int.le_refl _) fun h=>by omega) (fun i a b ih=>hs i a (by omega) fun _=>ih) i h0 h1
theorem bR {xs:List D} {n i:Int} (hn:(xs.length:Int)=n) (h:n<=i):xs.drop i.toNat=[]:=List.drop_eq_nil_of_le (by omega)
def bP (f:D->Int):List D->Int
 | []=>0
 | x::xs=>f x+bP f xs
theorem ez {f:D->Int} (hf:∀x,1<=f x):∀xs,0<=bP f xs
 | []=>Int.le_refl _
 | x::xs=>by have:=ez hf xs;have:=hf x;simp only [bP];omega
theorem kx {α:Type} (a:α):∃v,a=v:=⟨a,rfl⟩
theorem aU.aI {F:FuncId->Option (VF×Bool)} {T:Nat->Option VL} {o:aK} (ho:aU F T o) {f as cs s} (h:∀R,some s=R->sM o F f as cs=R):o.call f as cs=some s:=ho.aq (h _ rfl)
theorem aU.gC {F:FuncId->Option (VF×Bool)} {T:Nat->Option VL} {o:aK} (ho:aU F T o) {k s z} (h:∀R,some z=R->sL o T k s=R):o.loop k s=some z:=ho.ay (h _ rfl)
section
variable {F:FuncId->Option (VF×Bool)} {T:Nat->Option VL} {o:aK} (ho:aU F T o)
include ho
theorem bA (a b:Int) (h1: -9223372036854775808<=a+b:=by omega) (h2:a+b<=9223372036854775807:=by omega):∃n:Int,o.ar .add .i64 a b=n/\n=a+b:=⟨_,rfl,cM ho h1 h2⟩
theorem aS (a b:Int) (h1: -9223372036854775808<=a-b:=by omega) (h2:a-b<=9223372036854775807:=by omega):∃n:Int,o.ar .sub .i64 a b=n/\n=a-b:=⟨_,rfl,fP ho h1 h2⟩
theorem cQ (a b:Int) (h:a=b:=by omega):o.cmp .eql a b=true:=cw ho h
theorem aj (a b:Int) (h:a≠b:=by omega):o.cmp .eql a b=false:=bG ho h
theorem bB (a b:Int):(o.cmp .lss a b=false/\b<=a)\/(o.cmp .lss a b=true/\a<b):=by cases h:o.cmp .lss a b;exact .inl ⟨rfl,LP ho h⟩;exact .inr ⟨rfl,Ol ho h⟩
theorem jy (a b:Int):(o.cmp .leq a b=false/\b<a)\/(o.cmp .leq a b=true/\a<=b):=by cases h:o.cmp .leq a b;exact .inl ⟨rfl,Ou ho h⟩;exact .inr ⟨rfl,Om ho h⟩
theorem fe (a b:Int):(o.cmp .gtr a b=false/\a<=b)\/(o.cmp .gtr a b=true/\b<a):=by cases h:o.cmp .gtr a b;exact .inl ⟨rfl,Ow ho h⟩;exact .inr ⟨rfl,Ov ho h⟩
theorem iQ (a b:Int):(o.cmp .geq a b=false/\a<b)\/(o.cmp .geq a b=true/\b<=a):=by cases h:o.cmp .geq a b;exact .inl ⟨rfl,Oy ho h⟩;exact .inr ⟨rfl,Ox ho h⟩
theorem ak (a b:Int):(o.cmp .eql a b=false/\a≠b)\/(o.cmp .eql a b=true/\a=b):=by cases h:o.cmp .eql a b;exact .inl ⟨rfl,kB ho h⟩;exact .inr ⟨rfl,LQ ho h⟩
theorem cH (a b:Int):(o.cmp .neq a b=false/\a=b)\/(o.cmp .neq a b=true/\a≠b):=by cases h:o.cmp .neq a b;exact .inl ⟨rfl,OA ho h⟩;exact .inr ⟨rfl,Oz ho h⟩
theorem aP (a b:ByteArray):(o.gW .eql a b=false/\a≠b)\/(o.gW .eql a b=true/\a=b):=by cases h:o.gW .eql a b;exact .inl ⟨rfl,OD ho h⟩;exact .inr ⟨rfl,OB ho h⟩
theorem pu (a b:ByteArray):(o.gW .neq a b=false/\a=b)\/(o.gW .neq a b=true/\a≠b):=by cases h:o.gW .neq a b;exact .inl ⟨rfl,OH ho h⟩;exact .inr ⟨rfl,OG ho h⟩
theorem aB (xs:List D):∃n:Int,o.len xs=n/\n=xs.length:=⟨_,rfl,lS ho xs⟩
theorem uh (s:ByteArray):∃n:Int,o.sLen s=n/\n=s.size:=⟨_,rfl,LO ho s⟩
end
end Go.Vi
