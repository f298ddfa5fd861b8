import Derived.Test.YtfnagkpidcdocaaGreatM12
import Derived.Test.YtfnagkpidcdocaaGreatProg
import Derived.KernelRfl
import Derived.Test.YtfnagkpidcdocaaGreatM15
import Derived.Test.YtfnagkpidcdocaaGreatM27
set_option linter.all false
open Go Go.Vi Go.Proofs
namespace T2
set_option maxRecDepth 100000
set_option maxHeartbeats 4000000
theorem Ac:Tryz.prog.cellsOf 3=1:=by kernel_rfl
theorem Ad:Tryz.prog.cellsOf 9=1:=by kernel_rfl
theorem N7:Tryz.prog.cellsOf 22=1:=by kernel_rfl
theorem M9:Tryz.prog.cellsOf 23=1:=by kernel_rfl
theorem N8:Tryz.prog.cellsOf 25=2:=by kernel_rfl
theorem N9:Tryz.prog.cellsOf 26=1:=by kernel_rfl
theorem IK:Tryz.prog.cellsOf 29=1:=by kernel_rfl
theorem Ae:Tryz.prog.cellsOf 31=4:=by kernel_rfl
theorem Le:Tryz.prog.cellsOf 34=1:=by kernel_rfl
theorem DP:Tryz.prog.cellsOf 35=1:=by kernel_rfl
theorem Lf:Tryz.prog.cellsOf 37=2:=by kernel_rfl
theorem N_:Tryz.prog.cellsOf 62=4:=by kernel_rfl
theorem Fy:Tryz.prog.cellsOf 216=1:=by kernel_rfl
theorem xh:Tryz.prog.cellsOf 224=4:=by kernel_rfl
theorem Af:Tryz.prog.cellsOf 226=4:=by kernel_rfl
theorem M_:Tryz.prog.cellsOf 240=1:=by kernel_rfl
theorem Na:Tryz.prog.cellsOf 242=4:=by kernel_rfl
theorem Nb:Tryz.prog.cellsOf 245=4:=by kernel_rfl
theorem xj:Tryz.prog.cellsOf 249=4:=by kernel_rfl
theorem Nc:Tryz.prog.cellsOf 388=4:=by kernel_rfl
theorem yA {n:Nat} {ds:List D} (h:Fits Tryz.prog (n+1) 25 ds):∃c0 c1,ds=[c0,c1]/\Fits Tryz.prog n 22 [c0]/\Fits Tryz.prog n 23 [c1]:=by
 simp only [Fits,Tryz.underlying25]at h;obtain ⟨h1,h2⟩:=h;rw [N8]at h1;obtain ⟨c0,e0,rfl,g0⟩:=aM h1;obtain ⟨c1,e1,rfl,g1⟩:=aM g0;obtain rfl:=List.length_eq_zero_iff.1 g1;simp [N7,M9]at h2;exact ⟨c0,c1,rfl,h2⟩
theorem Fz {n:Nat} {ds:List D} (h:Fits Tryz.prog (n+1) 31 ds):∃c0 c1 c2 c3,ds=[c0,c1,c2,c3]/\Fits Tryz.prog n 3 [c0]/\Fits Tryz.prog n 3 [c1]/\Fits Tryz.prog n 9 [c2]/\Fits Tryz.prog n 29 [c3]:=by
 simp only [Fits,Tryz.underlying31]at h;obtain ⟨h1,h2⟩:=h;rw [Ae]at h1;obtain ⟨c0,e0,rfl,g0⟩:=aM h1;obtain ⟨c1,e1,rfl,g1⟩:=aM g0;obtain ⟨c2,e2,rfl,g2⟩:=aM g1;obtain ⟨c3,e3,rfl,g3⟩:=aM g2;obtain rfl:=List.length_eq_zero_iff.1 g3;simp [Ac,Ad,IK]at h2;exact ⟨c0,c1,c2,c3,rfl,h2⟩
theorem J_ {n:Nat} {ds:List D} (h:Own Tryz.prog (n+1) 31 ds):∃c0 c1 c2 c3,ds=[c0,c1,c2,c3]/\Own Tryz.prog n 3 [c0]/\Own Tryz.prog n 3 [c1]/\Own Tryz.prog n 9 [c2]/\Own Tryz.prog n 29 [c3]:=by
 simp only [Own,Tryz.underlying31]at h;obtain ⟨h1,h2⟩:=h;rw [Ae]at h1;obtain ⟨c0,e0,rfl,g0⟩:=aM h1;obtain ⟨c1,e1,rfl,g1⟩:=aM g0;obtain ⟨c2,e2,rfl,g2⟩:=aM g1;obtain ⟨c3,e3,rfl,g3⟩:=aM g2;obtain rfl:=List.length_eq_zero_iff.1 g3;simp [Ac,Ad,IK]at h2;exact ⟨c0,c1,c2,c3,rfl,h2⟩
theorem CU {n:Nat} {c0 c1 c2 c3:D} (h:Own Tryz.prog n 3 [c0]/\Own Tryz.prog n 3 [c1]/\Own Tryz.prog n 9 [c2]/\Own Tryz.prog n 29 [c3]):Own Tryz.prog (n+1) 31 [c0,c1,c2,c3]:=by
 refine gJ Tryz.underlying31 (by rw [Ae];rfl) ?_;simp [Ac,Ad,IK];exact h
theorem FA {n:Nat} {c0 c1 c2 c3:D} (h:Fits Tryz.prog n 3 [c0]/\Fits Tryz.prog n 3 [c1]/\Fits Tryz.prog n 9 [c2]/\Fits Tryz.prog n 29 [c3]):Fits Tryz.prog (n+1) 31 [c0,c1,c2,c3]:=by
 refine v5 Tryz.underlying31 (by rw [Ae];rfl) ?_;simp [Ac,Ad,IK];exact h
theorem Lg {n:Nat} {ds:List D} (h:Fits Tryz.prog (n+1) 37 ds):∃c0 c1,ds=[c0,c1]/\Fits Tryz.prog n 34 [c0]/\Fits Tryz.prog n 35 [c1]:=by
 simp only [Fits,Tryz.underlying37]at h;obtain ⟨h1,h2⟩:=h;rw [Lf]at h1;obtain ⟨c0,e0,rfl,g0⟩:=aM h1;obtain ⟨c1,e1,rfl,g1⟩:=aM g0;obtain rfl:=List.length_eq_zero_iff.1 g1;simp [Le,DP]at h2;exact ⟨c0,c1,rfl,h2⟩
theorem Nd {n:Nat} {ds:List D} (h:Own Tryz.prog (n+1) 37 ds):∃c0 c1,ds=[c0,c1]/\Own Tryz.prog n 34 [c0]/\Own Tryz.prog n 35 [c1]:=by
 simp only [Own,Tryz.underlying37]at h;obtain ⟨h1,h2⟩:=h;rw [Lf]at h1;obtain ⟨c0,e0,rfl,g0⟩:=aM h1;obtain ⟨c1,e1,rfl,g1⟩:=aM g0;obtain rfl:=List.length_eq_zero_iff.1 g1;simp [Le,DP]at h2;exact ⟨c0,c1,rfl,h2⟩
theorem IL {n:Nat} {c0 c1:D} (h:Own Tryz.prog n 34 [c0]/\Own Tryz.prog n 35 [c1]):Own Tryz.prog (n+1) 37 [c0,c1]:=by
 refine gJ Tryz.underlying37 (by rw [Lf];rfl) ?_;simp [Le,DP];exact h
theorem yB {n:Nat} {ds:List D} (h:Fits Tryz.prog (n+1) 62 ds):∃c0 c1 c2 c3,ds=[c0,c1,c2,c3]/\Fits Tryz.prog n 3 [c0]/\Fits Tryz.prog n 3 [c1]/\Fits Tryz.prog n 9 [c2]/\Fits Tryz.prog n 26 [c3]:=by
 simp only [Fits,Tryz.underlying62]at h;obtain ⟨h1,h2⟩:=h;rw [N_]at h1;obtain ⟨c0,e0,rfl,g0⟩:=aM h1;obtain ⟨c1,e1,rfl,g1⟩:=aM g0;obtain ⟨c2,e2,rfl,g2⟩:=aM g1;obtain ⟨c3,e3,rfl,g3⟩:=aM g2;obtain rfl:=List.length_eq_zero_iff.1 g3;simp [Ac,Ad,N9]at h2;exact ⟨c0,c1,c2,c3,rfl,h2⟩
theorem CV {n:Nat} {ds:List D} (h:Fits Tryz.prog (n+1) 224 ds):∃c0 c1 c2 c3,ds=[c0,c1,c2,c3]/\Fits Tryz.prog n 3 [c0]/\Fits Tryz.prog n 3 [c1]/\Fits Tryz.prog n 9 [c2]/\Fits Tryz.prog n 3 [c3]:=by
 simp only [Fits,Tryz.underlying224]at h;obtain ⟨h1,h2⟩:=h;rw [xh]at h1;obtain ⟨c0,e0,rfl,g0⟩:=aM h1;obtain ⟨c1,e1,rfl,g1⟩:=aM g0;obtain ⟨c2,e2,rfl,g2⟩:=aM g1;obtain ⟨c3,e3,rfl,g3⟩:=aM g2;obtain rfl:=List.length_eq_zero_iff.1 g3;simp [Ac,Ad]at h2;exact ⟨c0,c1,c2,c3,rfl,h2⟩
theorem Lh {n:Nat} {ds:List D} (h:Own Tryz.prog (n+1) 224 ds):∃c0 c1 c2 c3,ds=[c0,c1,c2,c3]/\Own Tryz.prog n 3 [c0]/\Own Tryz.prog n 3 [c1]/\Own Tryz.prog n 9 [c2]/\Own Tryz.prog n 3 [c3]:=by
 simp only [Own,Tryz.underlying224]at h;obtain ⟨h1,h2⟩:=h;rw [xh]at h1;obtain ⟨c0,e0,rfl,g0⟩:=aM h1;obtain ⟨c1,e1,rfl,g1⟩:=aM g0;obtain ⟨c2,e2,rfl,g2⟩:=aM g1;obtain ⟨c3,e3,rfl,g3⟩:=aM g2;obtain rfl:=List.length_eq_zero_iff.1 g3;simp [Ac,Ad]at h2;exact ⟨c0,c1,c2,c3,rfl,h2⟩
theorem FB {n:Nat} {c0 c1 c2 c3:D} (h:Own Tryz.prog n 3 [c0]/\Own Tryz.prog n 3 [c1]/\Own Tryz.prog n 9 [c2]/\Own Tryz.prog n 3 [c3]):Own Tryz.prog (n+1) 224 [c0,c1,c2,c3]:=by
 refine gJ Tryz.underlying224 (by rw [xh];rfl) ?_;simp [Ac,Ad];exact h
theorem CW {n:Nat} {ds:List D} (h:Fits Tryz.prog (n+1) 226 ds):∃c0 c1 c2 c3,ds=[c0,c1,c2,c3]/\Fits Tryz.prog n 9 [c0]/\Fits Tryz.prog n 3 [c1]/\Fits Tryz.prog n 3 [c2]/\Fits Tryz.prog n 216 [c3]:=by
 simp only [Fits,Tryz.underlying226]at h;obtain ⟨h1,h2⟩:=h;rw [Af]at h1;obtain ⟨c0,e0,rfl,g0⟩:=aM h1;obtain ⟨c1,e1,rfl,g1⟩:=aM g0;obtain ⟨c2,e2,rfl,g2⟩:=aM g1;obtain ⟨c3,e3,rfl,g3⟩:=aM g2;obtain rfl:=List.length_eq_zero_iff.1 g3;simp [Ac,Ad,Fy]at h2;exact ⟨c0,c1,c2,c3,rfl,h2⟩
theorem Li {n:Nat} {ds:List D} (h:Own Tryz.prog (n+1) 226 ds):∃c0 c1 c2 c3,ds=[c0,c1,c2,c3]/\Own Tryz.prog n 9 [c0]/\Own Tryz.prog n 3 [c1]/\Own Tryz.prog n 3 [c2]/\Own Tryz.prog n 216 [c3]:=by
 simp only [Own,Tryz.underlying226]at h;obtain ⟨h1,h2⟩:=h;rw [Af]at h1;obtain ⟨c0,e0,rfl,g0⟩:=aM h1;obtain ⟨c1,e1,rfl,g1⟩:=aM g0;obtain ⟨c2,e2,rfl,g2⟩:=aM g1;obtain ⟨c3,e3,rfl,g3⟩:=aM g2;obtain rfl:=List.length_eq_zero_iff.1 g3;simp [Ac,Ad,Fy]at h2;exact ⟨c0,c1,c2,c3,rfl,h2⟩
theorem FC {n:Nat} {c0 c1 c2 c3:D} (h:Own Tryz.prog n 9 [c0]/\Own Tryz.prog n 3 [c1]/\Own Tryz.prog n 3 [c2]/\Own Tryz.prog n 216 [c3]):Own Tryz.prog (n+1) 226 [c0,c1,c2,c3]:=by
 refine gJ Tryz.underlying226 (by rw [Af];rfl) ?_;simp [Ac,Ad,Fy];exact h
theorem tR {n:Nat} {ds:List D} (h:Fits Tryz.prog (n+1) 242 ds):∃c0 c1 c2 c3,ds=[c0,c1,c2,c3]/\Fits Tryz.prog n 9 [c0]/\Fits Tryz.prog n 3 [c1]/\Fits Tryz.prog n 3 [c2]/\Fits Tryz.prog n 240 [c3]:=by
 simp only [Fits,Tryz.underlying242]at h;obtain ⟨h1,h2⟩:=h;rw [Na]at h1;obtain ⟨c0,e0,rfl,g0⟩:=aM h1;obtain ⟨c1,e1,rfl,g1⟩:=aM g0;obtain ⟨c2,e2,rfl,g2⟩:=aM g1;obtain ⟨c3,e3,rfl,g3⟩:=aM g2;obtain rfl:=List.length_eq_zero_iff.1 g3;simp [Ac,Ad,M_]at h2;exact ⟨c0,c1,c2,c3,rfl,h2⟩
theorem tT {n:Nat} {ds:List D} (h:Fits Tryz.prog (n+1) 245 ds):∃c0 c1 c2 c3,ds=[c0,c1,c2,c3]/\Fits Tryz.prog n 3 [c0]/\Fits Tryz.prog n 3 [c1]/\Fits Tryz.prog n 9 [c2]/\Fits Tryz.prog n 23 [c3]:=by
 simp only [Fits,Tryz.underlying245]at h;obtain ⟨h1,h2⟩:=h;rw [Nb]at h1;obtain ⟨c0,e0,rfl,g0⟩:=aM h1;obtain ⟨c1,e1,rfl,g1⟩:=aM g0;obtain ⟨c2,e2,rfl,g2⟩:=aM g1;obtain ⟨c3,e3,rfl,g3⟩:=aM g2;obtain rfl:=List.length_eq_zero_iff.1 g3;simp [Ac,Ad,M9]at h2;exact ⟨c0,c1,c2,c3,rfl,h2⟩
theorem CX {n:Nat} {ds:List D} (h:Fits Tryz.prog (n+1) 249 ds):∃c0 c1 c2 c3,ds=[c0,c1,c2,c3]/\Fits Tryz.prog n 3 [c0]/\Fits Tryz.prog n 3 [c1]/\Fits Tryz.prog n 9 [c2]/\Fits Tryz.prog n 35 [c3]:=by
 simp only [Fits,Tryz.underlying249]at h;obtain ⟨h1,h2⟩:=h;rw [xj]at h1;obtain ⟨c0,e0,rfl,g0⟩:=aM h1;obtain ⟨c1,e1,rfl,g1⟩:=aM g0;obtain ⟨c2,e2,rfl,g2⟩:=aM g1;obtain ⟨c3,e3,rfl,g3⟩:=aM g2;obtain rfl:=List.length_eq_zero_iff.1 g3;simp [Ac,Ad,DP]at h2;exact ⟨c0,c1,c2,c3,rfl,h2⟩
theorem Lj {n:Nat} {ds:List D} (h:Own Tryz.prog (n+1) 249 ds):∃c0 c1 c2 c3,ds=[c0,c1,c2,c3]/\Own Tryz.prog n 3 [c0]/\Own Tryz.prog n 3 [c1]/\Own Tryz.prog n 9 [c2]/\Own Tryz.prog n 35 [c3]:=by
 simp only [Own,Tryz.underlying249]at h;obtain ⟨h1,h2⟩:=h;rw [xj]at h1;obtain ⟨c0,e0,rfl,g0⟩:=aM h1;obtain ⟨c1,e1,rfl,g1⟩:=aM g0;obtain ⟨c2,e2,rfl,g2⟩:=aM g1;obtain ⟨c3,e3,rfl,g3⟩:=aM g2;obtain rfl:=List.length_eq_zero_iff.1 g3;simp [Ac,Ad,DP]at h2;exact ⟨c0,c1,c2,c3,rfl,h2⟩
theorem FD {n:Nat} {c0 c1 c2 c3:D} (h:Own Tryz.prog n 3 [c0]/\Own Tryz.prog n 3 [c1]/\Own Tryz.prog n 9 [c2]/\Own Tryz.prog n 35 [c3]):Own Tryz.prog (n+1) 249 [c0,c1,c2,c3]:=by
 refine gJ Tryz.underlying249 (by rw [xj];rfl) ?_;simp [Ac,Ad,DP];exact h
theorem yC {n:Nat} {ds:List D} (h:Fits Tryz.prog (n+1) 388 ds):∃c0 c1 c2 c3,ds=[c0,c1,c2,c3]/\Fits Tryz.prog n 3 [c0]/\Fits Tryz.prog n 3 [c1]/\Fits Tryz.prog n 9 [c2]/\Fits Tryz.prog n 3 [c3]:=by
 simp only [Fits,Tryz.underlying388]at h;obtain ⟨h1,h2⟩:=h;rw [Nc]at h1;obtain ⟨c0,e0,rfl,g0⟩:=aM h1;obtain ⟨c1,e1,rfl,g1⟩:=aM g0;obtain ⟨c2,e2,rfl,g2⟩:=aM g1;obtain ⟨c3,e3,rfl,g3⟩:=aM g2;obtain rfl:=List.length_eq_zero_iff.1 g3;simp [Ac,Ad]at h2;exact ⟨c0,c1,c2,c3,rfl,h2⟩
end T2
open Go Go.Vi Go.Proofs
namespace T2
set_option maxRecDepth 100000
set_option maxHeartbeats 4000000
variable {o:aK} (ho:aU cF bE o)
def FE (o:aK) (n:Nat):Prop:=∀ds,Fits Tryz.prog n 31 ds->o.call 20 [.agg (ds.map .d),.agg (ds.map .d)] []=some ⟨.d (.bool true),[],[]⟩
def FG (o:aK) (n:Nat):Prop:=∀ds,Fits Tryz.prog n 37 ds->o.call 21 [.agg (ds.map .d),.agg (ds.map .d)] []=some ⟨.d (.bool true),[],[]⟩
def CY (o:aK) (n:Nat):Prop:=∀xs,Fits Tryz.prog n 29 [.lst xs]->o.call 22 [.d (.lst xs),.d (.lst xs)] []=some ⟨.d (.bool true),[],[]⟩
def Ka (o:aK) (n:Nat):Prop:=∀xs,Fits Tryz.prog n 34 [.lst xs]->o.call 92 [.d (.lst xs),.d (.lst xs)] []=some ⟨.d (.bool true),[],[]⟩
def FH (o:aK) (n:Nat):Prop:=∀xs,Fits Tryz.prog n 35 [.lst xs]->o.call 93 [.d (.lst xs),.d (.lst xs)] []=some ⟨.d (.bool true),[],[]⟩
def Nf (o:aK) (n:Nat):Prop:=∀ds,Fits Tryz.prog n 226 ds->o.call 182 [.agg (ds.map .d),.agg (ds.map .d)] []=some ⟨.d (.bool true),[],[]⟩
def Kb (o:aK) (n:Nat):Prop:=∀ds,Fits Tryz.prog n 249 ds->o.call 183 [.agg (ds.map .d),.agg (ds.map .d)] []=some ⟨.d (.bool true),[],[]⟩
def FI (o:aK) (n:Nat):Prop:=∀xs,Fits Tryz.prog n 216 [.lst xs]->o.call 280 [.d (.lst xs),.d (.lst xs)] []=some ⟨.d (.bool true),[],[]⟩
def Kc (o:aK) (n:Nat):Prop:=∀ds,Fits Tryz.prog n 224 ds->o.call 345 [.agg (ds.map .d),.agg (ds.map .d)] []=some ⟨.d (.bool true),[],[]⟩
def nK (o:aK) (n:Nat):Prop:=FE o n/\FG o n/\CY o n/\Ka o n/\FH o n/\Nf o n/\Kb o n/\FI o n/\Kc o n
include ho
theorem eq_int (a:Int):o.cmp .neq a a=false:=by rw [ho.cmp];simp [Vi.eV]
theorem rF (s:ByteArray):o.gW .neq s s=false:=by rw [ho.gW];simp [s8]
theorem jm (a:Int):o.cmp .lss a a=false:=by rw [ho.cmp];simp [Vi.eV]
theorem fX {a b:Int} (h:a<b):o.cmp .lss a b=true:=by rw [ho.cmp];simp [Vi.eV,h]
theorem inc {a b:Int} (h0:0<=a) (h:a<b) (hb:b<=9223372036854775807):o.ar .add .i64 a 1=a+1:=by rw [ho.ar];simp only [Ev];exact uf (by omega) (by omega)
theorem bN (xs:List D) (k:Int) (x:D) (h0:0<=k) (h:xs[k.toNat]? =some x):o.dm xs k=some x:=by rw [ho.dm];simp [wX,h,h0]
theorem Ll {n:Nat} (ih:nK o n):FE o (n+1):=by
 intro ds h;have q:=h;obtain ⟨ac0,ac1,ac2,ac3,rfl,ah0,ah1,ah2,ah3⟩:=Fz h;obtain ⟨x0,e_,w0⟩:=fits_int Tryz.underlying3 ah0;injection e_ with e_;subst e_;obtain ⟨x1,e_,w1⟩:=fits_int Tryz.underlying3 ah1;injection e_ with e_;subst e_;obtain ⟨x2,e_,w2⟩:=fu Tryz.underlying9 ah2;injection e_ with e_;subst e_;have k3:=ah3;obtain ⟨x3,m3,em3,e_,w3,v3⟩:=bn Tryz.underlying29 ah3;injection e_ with e_;subst e_;have q3:=(ih.2.2.1) x3 k3;refine ho.aq ?_
 cbv
 repeat ((first | rw [eq_int ho] | rw [rF ho] | rw [q3]);(try cbv))
theorem Lm {n:Nat} (ih:nK o n):FG o (n+1):=by
 intro ds h;have q:=h;obtain ⟨ac0,ac1,rfl,ah0,ah1⟩:=Lg h;have k0:=ah0;obtain ⟨x0,m0,em0,e_,w0,v0⟩:=bn Tryz.underlying34 ah0;injection e_ with e_;subst e_;have q0:=(ih.2.2.2.1) x0 k0;have k1:=ah1;obtain ⟨x1,m1,em1,e_,w1,v1⟩:=bn Tryz.underlying35 ah1;injection e_ with e_;subst e_;have q1:=(ih.2.2.2.2.1) x1 k1;refine ho.aq ?_
 cbv
 repeat ((first | rw [eq_int ho] | rw [rF ho] | rw [q0] | rw [q1]);(try cbv))
theorem qt (xs:List D) (n:Int) (hn:o.len xs=n) (hm:n<=9223372036854775807) (hx:∀x∈xs,∃c0 c1 c2 c3,x= .agg [c0,c1,c2,c3]/\o.call 20 [.agg [.d c0,.d c1,.d c2,.d c3],.agg [.d c0,.d c1,.d c2,.d c3]] []=Ar (Ab true)):∀(m:Nat) (k:Int),0<=k->k+m=n->(o.loop 2200 ⟨[Al xs,Al xs,U,U,U,Ai k,U,U,U,U,U,U,U,U,U,U,U,U,U,U,U,U,U,U,U,U,U],lY⟩=some (.exit 0,⟨[U,U,U,U,U,U,U,U,U,U,U,U,U,U,U,U,U,U,U,U,U,U,U,U,U,U,U],lY⟩))
 | 0,k,h0,h=>by
  have hk:k=n:=by omega
  subst hk;have h2:=jm ho k;refine ho.ay ?_
  cbv
  repeat ((first | rw [hn] | rw [h2]);(try cbv))
 | m+1,k,h0,h=>by
  have hl:(xs.length:Int)=n:=by rw [<-hn,ho.len]
  have hk:k.toNat<xs.length:=by omega
  obtain ⟨x,hxk⟩:∃x,xs[k.toNat]? =some x:=⟨_,aN hk⟩
  obtain ⟨c0,c1,c2,c3,rfl,hc⟩:=hx x (List.mem_of_getElem? hxk);have ih:=qt xs n hn hm hx m (k+1) (by omega) (by omega);have h2:=fX ho (show k<n by omega);have h3:o.dm xs k=some (.agg [c0,c1,c2,c3]):=bN ho xs k _ h0 hxk;have h4:=inc ho h0 (show k<n by omega) hm;refine ho.ay ?_
  cbv
  repeat ((first | rw [hn] | rw [h2] | rw [h3] | rw [hc] | rw [h4] | exact ih);(try cbv))
theorem IQ {n:Nat} (ih:nK o n):CY o (n+1):=by
 intro xs h;obtain ⟨ys,m,em,e_,w,v⟩:=bn Tryz.underlying29 h;injection e_ with e_;injection e_ with e_;subst e_;injection em with em;subst em;have hm:((xs.length:Nat):Int)<=9223372036854775807:=by unfold maxLen at w;omega
 have hx:∀x∈xs,∃c0 c1 c2 c3,x= .agg [c0,c1,c2,c3]/\o.call 20 [.agg [.d c0,.d c1,.d c2,.d c3],.agg [.d c0,.d c1,.d c2,.d c3]] []=Ar (Ab true):=by
  intro x hx;obtain ⟨f1,f2⟩:=v x hx;rw [show cE Tryz.prog 31=true by unfold cE;rw [Tryz.underlying31]]at f2;cases n with
  | zero=>simp [Fits]at f1
  | succ n=>
   obtain ⟨c0,c1,c2,c3,e1,_⟩:=Fz f1;have q:=(ih.1) _ f1;rw [e1]at q;exact ⟨c0,c1,c2,c3,by rw [bZ f2,e1],q⟩
 have hn:o.len xs=((xs.length:Nat):Int):=ho.len xs;generalize hN:((xs.length:Nat):Int)=N at hn hm;have h1:=qt ho xs N hn hm hx xs.length 0 (Int.le_refl _) (by omega);have h2:=eq_int ho N;refine ho.aq ?_
 cbv
 repeat ((first | rw [hn] | rw [h2] | rw [h1]);(try cbv))
theorem u4 (xs:List D) (n:Int) (hn:o.len xs=n) (hm:n<=9223372036854775807) (hx:∀x∈xs,∃c0 c1 c2 c3,x= .agg [c0,c1,c2,c3]/\o.call 182 [.agg [.d c0,.d c1,.d c2,.d c3],.agg [.d c0,.d c1,.d c2,.d c3]] []=Ar (Ab true)):∀(m:Nat) (k:Int),0<=k->k+m=n->(o.loop 9200 ⟨[Al xs,Al xs,U,U,U,Ai k,U,U,U,U,U,U,U,U,U,U,U,U,U,U,U,U,U,U,U,U,U],lY⟩=some (.exit 0,⟨[U,U,U,U,U,U,U,U,U,U,U,U,U,U,U,U,U,U,U,U,U,U,U,U,U,U,U],lY⟩))
 | 0,k,h0,h=>by
  have hk:k=n:=by omega
  subst hk;have h2:=jm ho k;refine ho.ay ?_
  cbv
  repeat ((first | rw [hn] | rw [h2]);(try cbv))
 | m+1,k,h0,h=>by
  have hl:(xs.length:Int)=n:=by rw [<-hn,ho.len]
  have hk:k.toNat<xs.length:=by omega
  obtain ⟨x,hxk⟩:∃x,xs[k.toNat]? =some x:=⟨_,aN hk⟩
  obtain ⟨c0,c1,c2,c3,rfl,hc⟩:=hx x (List.mem_of_getElem? hxk);have ih:=u4 xs n hn hm hx m (k+1) (by omega) (by omega);have h2:=fX ho (show k<n by omega);have h3:o.dm xs k=some (.agg [c0,c1,c2,c3]):=bN ho xs k _ h0 hxk;have h4:=inc ho h0 (show k<n by omega) hm;refine ho.ay ?_
  cbv
  repeat ((first | rw [hn] | rw [h2] | rw [h3] | rw [hc] | rw [h4] | exact ih);(try cbv))
theorem Ng {n:Nat} (ih:nK o n):Ka o (n+1):=by
 intro xs h;obtain ⟨ys,m,em,e_,w,v⟩:=bn Tryz.underlying34 h;injection e_ with e_;injection e_ with e_;subst e_;injection em with em;subst em;have hm:((xs.length:Nat):Int)<=9223372036854775807:=by unfold maxLen at w;omega
 have hx:∀x∈xs,∃c0 c1 c2 c3,x= .agg [c0,c1,c2,c3]/\o.call 182 [.agg [.d c0,.d c1,.d c2,.d c3],.agg [.d c0,.d c1,.d c2,.d c3]] []=Ar (Ab true):=by
  intro x hx;obtain ⟨f1,f2⟩:=v x hx;rw [show cE Tryz.prog 226=true by unfold cE;rw [Tryz.underlying226]]at f2;cases n with
  | zero=>simp [Fits]at f1
  | succ n=>
   obtain ⟨c0,c1,c2,c3,e1,_⟩:=CW f1;have q:=(ih.2.2.2.2.2.1) _ f1;rw [e1]at q;exact ⟨c0,c1,c2,c3,by rw [bZ f2,e1],q⟩
 have hn:o.len xs=((xs.length:Nat):Int):=ho.len xs;generalize hN:((xs.length:Nat):Int)=N at hn hm;have h1:=u4 ho xs N hn hm hx xs.length 0 (Int.le_refl _) (by omega);have h2:=eq_int ho N;refine ho.aq ?_
 cbv
 repeat ((first | rw [hn] | rw [h2] | rw [h1]);(try cbv))
theorem sA (xs:List D) (n:Int) (hn:o.len xs=n) (hm:n<=9223372036854775807) (hx:∀x∈xs,∃c0 c1 c2 c3,x= .agg [c0,c1,c2,c3]/\o.call 183 [.agg [.d c0,.d c1,.d c2,.d c3],.agg [.d c0,.d c1,.d c2,.d c3]] []=Ar (Ab true)):∀(m:Nat) (k:Int),0<=k->k+m=n->(o.loop 9300 ⟨[Al xs,Al xs,U,U,U,Ai k,U,U,U,U,U,U,U,U,U,U,U,U,U,U,U,U,U,U,U,U,U],lY⟩=some (.exit 0,⟨[U,U,U,U,U,U,U,U,U,U,U,U,U,U,U,U,U,U,U,U,U,U,U,U,U,U,U],lY⟩))
 | 0,k,h0,h=>by
  have hk:k=n:=by omega
  subst hk;have h2:=jm ho k;refine ho.ay ?_
  cbv
  repeat ((first | rw [hn] | rw [h2]);(try cbv))
 | m+1,k,h0,h=>by
  have hl:(xs.length:Int)=n:=by rw [<-hn,ho.len]
  have hk:k.toNat<xs.length:=by omega
  obtain ⟨x,hxk⟩:∃x,xs[k.toNat]? =some x:=⟨_,aN hk⟩
  obtain ⟨c0,c1,c2,c3,rfl,hc⟩:=hx x (List.mem_of_getElem? hxk);have ih:=sA xs n hn hm hx m (k+1) (by omega) (by omega);have h2:=fX ho (show k<n by omega);have h3:o.dm xs k=some (.agg [c0,c1,c2,c3]):=bN ho xs k _ h0 hxk;have h4:=inc ho h0 (show k<n by omega) hm;refine ho.ay ?_
  cbv
  repeat ((first | rw [hn] | rw [h2] | rw [h3] | rw [hc] | rw [h4] | exact ih);(try cbv))
theorem Ln {n:Nat} (ih:nK o n):FH o (n+1):=by
 intro xs h;obtain ⟨ys,m,em,e_,w,v⟩:=bn Tryz.underlying35 h;injection e_ with e_;injection e_ with e_;subst e_;injection em with em;subst em;have hm:((xs.length:Nat):Int)<=9223372036854775807:=by unfold maxLen at w;omega
 have hx:∀x∈xs,∃c0 c1 c2 c3,x= .agg [c0,c1,c2,c3]/\o.call 183 [.agg [.d c0,.d c1,.d c2,.d c3],.agg [.d c0,.d c1,.d c2,.d c3]] []=Ar (Ab true):=by
  intro x hx;obtain ⟨f1,f2⟩:=v x hx;rw [show cE Tryz.prog 249=true by unfold cE;rw [Tryz.underlying249]]at f2;cases n with
  | zero=>simp [Fits]at f1
  | succ n=>
   obtain ⟨c0,c1,c2,c3,e1,_⟩:=CX f1;have q:=(ih.2.2.2.2.2.2.1) _ f1;rw [e1]at q;exact ⟨c0,c1,c2,c3,by rw [bZ f2,e1],q⟩
 have hn:o.len xs=((xs.length:Nat):Int):=ho.len xs;generalize hN:((xs.length:Nat):Int)=N at hn hm;have h1:=sA ho xs N hn hm hx xs.length 0 (Int.le_refl _) (by omega);have h2:=eq_int ho N;refine ho.aq ?_
 cbv
 repeat ((first | rw [hn] | rw [h2] | rw [h1]);(try cbv))
theorem Oa {n:Nat} (ih:nK o n):Nf o (n+1):=by
 intro ds h;have q:=h;obtain ⟨ac0,ac1,ac2,ac3,rfl,ah0,ah1,ah2,ah3⟩:=CW h;obtain ⟨x0,e_,w0⟩:=fu Tryz.underlying9 ah0;injection e_ with e_;subst e_;obtain ⟨x1,e_,w1⟩:=fits_int Tryz.underlying3 ah1;injection e_ with e_;subst e_;obtain ⟨x2,e_,w2⟩:=fits_int Tryz.underlying3 ah2;injection e_ with e_;subst e_;have k3:=ah3;obtain ⟨x3,m3,em3,e_,w3,v3⟩:=bn Tryz.underlying216 ah3;injection e_ with e_;subst e_;have q3:=(ih.2.2.2.2.2.2.2.1) x3 k3;refine ho.aq ?_
 cbv
 repeat ((first | rw [eq_int ho] | rw [rF ho] | rw [q3]);(try cbv))
theorem Nh {n:Nat} (ih:nK o n):Kb o (n+1):=by
 intro ds h;have q:=h;obtain ⟨ac0,ac1,ac2,ac3,rfl,ah0,ah1,ah2,ah3⟩:=CX h;obtain ⟨x0,e_,w0⟩:=fits_int Tryz.underlying3 ah0;injection e_ with e_;subst e_;obtain ⟨x1,e_,w1⟩:=fits_int Tryz.underlying3 ah1;injection e_ with e_;subst e_;obtain ⟨x2,e_,w2⟩:=fu Tryz.underlying9 ah2;injection e_ with e_;subst e_;have k3:=ah3;obtain ⟨x3,m3,em3,e_,w3,v3⟩:=bn Tryz.underlying35 ah3;injection e_ with e_;subst e_;have q3:=(ih.2.2.2.2.1) x3 k3;refine ho.aq ?_
 cbv
 repeat ((first | rw [eq_int ho] | rw [rF ho] | rw [q3]);(try cbv))
theorem sB (xs:List D) (n:Int) (hn:o.len xs=n) (hm:n<=9223372036854775807) (hx:∀x∈xs,∃c0 c1 c2 c3,x= .agg [c0,c1,c2,c3]/\o.call 345 [.agg [.d c0,.d c1,.d c2,.d c3],.agg [.d c0,.d c1,.d c2,.d c3]] []=Ar (Ab true)):∀(m:Nat) (k:Int),0<=k->k+m=n->(o.loop 28000 ⟨[Al xs,Al xs,U,U,U,Ai k,U,U,U,U,U,U,U,U,U,U,U,U,U,U,U,U,U,U,U,U,U],lY⟩=some (.exit 0,⟨[U,U,U,U,U,U,U,U,U,U,U,U,U,U,U,U,U,U,U,U,U,U,U,U,U,U,U],lY⟩))
 | 0,k,h0,h=>by
  have hk:k=n:=by omega
  subst hk;have h2:=jm ho k;refine ho.ay ?_
  cbv
  repeat ((first | rw [hn] | rw [h2]);(try cbv))
 | m+1,k,h0,h=>by
  have hl:(xs.length:Int)=n:=by rw [<-hn,ho.len]
  have hk:k.toNat<xs.length:=by omega
  obtain ⟨x,hxk⟩:∃x,xs[k.toNat]? =some x:=⟨_,aN hk⟩
  obtain ⟨c0,c1,c2,c3,rfl,hc⟩:=hx x (List.mem_of_getElem? hxk);have ih:=sB xs n hn hm hx m (k+1) (by omega) (by omega);have h2:=fX ho (show k<n by omega);have h3:o.dm xs k=some (.agg [c0,c1,c2,c3]):=bN ho xs k _ h0 hxk;have h4:=inc ho h0 (show k<n by omega) hm;refine ho.ay ?_
  cbv
  repeat ((first | rw [hn] | rw [h2] | rw [h3] | rw [hc] | rw [h4] | exact ih);(try cbv))
theorem Lo {n:Nat} (ih:nK o n):FI o (n+1):=by
 intro xs h;obtain ⟨ys,m,em,e_,w,v⟩:=bn Tryz.underlying216 h;injection e_ with e_;injection e_ with e_;subst e_;injection em with em;subst em;have hm:((xs.length:Nat):Int)<=9223372036854775807:=by unfold maxLen at w;omega
 have hx:∀x∈xs,∃c0 c1 c2 c3,x= .agg [c0,c1,c2,c3]/\o.call 345 [.agg [.d c0,.d c1,.d c2,.d c3],.agg [.d c0,.d c1,.d c2,.d c3]] []=Ar (Ab true):=by
  intro x hx;obtain ⟨f1,f2⟩:=v x hx;rw [show cE Tryz.prog 224=true by unfold cE;rw [Tryz.underlying224]]at f2;cases n with
  | zero=>simp [Fits]at f1
  | succ n=>
   obtain ⟨c0,c1,c2,c3,e1,_⟩:=CV f1;have q:=(ih.2.2.2.2.2.2.2.2) _ f1;rw [e1]at q;exact ⟨c0,c1,c2,c3,by rw [bZ f2,e1],q⟩
 have hn:o.len xs=((xs.length:Nat):Int):=ho.len xs;generalize hN:((xs.length:Nat):Int)=N at hn hm;have h1:=sB ho xs N hn hm hx xs.length 0 (Int.le_refl _) (by omega);have h2:=eq_int ho N;refine ho.aq ?_
 cbv
 repeat ((first | rw [hn] | rw [h2] | rw [h1]);(try cbv))
theorem Ni {n:Nat} (ih:nK o n):Kc o (n+1):=by
 intro ds h;have q:=h;obtain ⟨ac0,ac1,ac2,ac3,rfl,ah0,ah1,ah2,ah3⟩:=CV h;obtain ⟨x0,e_,w0⟩:=fits_int Tryz.underlying3 ah0;injection e_ with e_;subst e_;obtain ⟨x1,e_,w1⟩:=fits_int Tryz.underlying3 ah1;injection e_ with e_;subst e_;obtain ⟨x2,e_,w2⟩:=fu Tryz.underlying9 ah2;injection e_ with e_;subst e_;obtain ⟨x3,e_,w3⟩:=fits_int Tryz.underlying3 ah3;injection e_ with e_;subst e_;refine ho.aq ?_
 cbv
 repeat ((first | rw [eq_int ho] | rw [rF ho]);(try cbv))
theorem Ag:∀n,nK o n
 | 0=>by
  unfold nK;refine ⟨?_,?_,?_,?_,?_,?_,?_,?_,?_⟩<;>(intro x h;simp [Fits]at h)
 | n+1=>have ih:=Ag n;⟨Ll ho ih,Lm ho ih,IQ ho ih,Ng ho ih,Ln ho ih,Oa ho ih,Nh ho ih,Lo ho ih,Ni ho ih⟩
end T2
open Go Go.Vi Go.Proofs
namespace T2
set_option maxRecDepth 100000
set_option maxHeartbeats 4000000
variable {o:aK} (ho:aU cF bE o)
theorem cS {P:Program} {n:Nat} {t:TypeId} {ds:List D} (hs:(match P.underlying t with | some .bool=>true | some (.int _)=>true | some .string=>true | _=>false)=true) (h:Fits P n t ds):Own P n t ds:=by
 cases n with
 | zero=>simp [Fits]at h
 | succ n=>
  unfold Fits at h;unfold Own;split at h<;>first
   | (rename_i hu;rw [hu]at hs;first | (cases hs;done) | exact h | (rw [hu];exact h))
   | exact h.elim
def FJ (o:aK) (n:Nat):Prop:=∀ds,Fits Tryz.prog n 25 ds->kO 1048576 ds->∃(x0 y0 x1 y1:List D),ds=[.lst x0,.lst x1]/\o.call 17 [.agg (ds.map .d)] []=some ⟨.agg [.arr (0,0) (226,4) none true,.arr (0,1) (249,4) none true],[],[some (.orows (226,4) y0),some (.orows (249,4) y1)]⟩/\Own Tryz.prog n 37 [.own (226,4) y0,.own (249,4) y1]/\aV y0=x0/\aV y1=x1
def CZ (o:aK) (n:Nat):Prop:=∀xs,Fits Tryz.prog n 26 [.lst xs]->Sm 1048576 (.lst xs)->∃ys,o.call 18 [.d (.lst xs)] []=some ⟨.arr (0,0) (31,4) none true,[],[some (.orows (31,4) ys)]⟩/\aV ys=xs/\Own Tryz.prog n 29 [.own (31,4) ys]
def Kd (o:aK) (n:Nat):Prop:=∀xs,Fits Tryz.prog n 22 [.lst xs]->Sm 1048576 (.lst xs)->∃ys,o.call 86 [.d (.lst xs)] []=some ⟨.arr (0,0) (226,4) none true,[],[some (.orows (226,4) ys)]⟩/\aV ys=xs/\Own Tryz.prog n 34 [.own (226,4) ys]
def FK (o:aK) (n:Nat):Prop:=∀xs,Fits Tryz.prog n 23 [.lst xs]->Sm 1048576 (.lst xs)->∃ys,o.call 87 [.d (.lst xs)] []=some ⟨.arr (0,0) (249,4) none true,[],[some (.orows (249,4) ys)]⟩/\aV ys=xs/\Own Tryz.prog n 35 [.own (249,4) ys]
def FL (o:aK) (n:Nat):Prop:=∀ds,Fits Tryz.prog n 62 ds->kO 1048576 ds->∃(c0 c1:Int) (c2:ByteArray) (x3 y3:List D),ds=[.int .i64 c0,.int .i64 c1,.str c2,.lst x3]/\o.call 88 [.agg (ds.map .d)] []=some ⟨.agg [.d (.int .i64 c0),.d (.int .i64 c1),.d (.str c2),.arr (0,0) (31,4) none true],[],[some (.orows (31,4) y3)]⟩/\Own Tryz.prog n 31 [.int .i64 c0,.int .i64 c1,.str c2,.own (31,4) y3]/\aV y3=x3
def Nj (o:aK) (n:Nat):Prop:=∀ds,Fits Tryz.prog n 242 ds->kO 1048576 ds->∃(c0:ByteArray) (c1 c2:Int) (x3 y3:List D),ds=[.str c0,.int .i64 c1,.int .i64 c2,.lst x3]/\o.call 178 [.agg (ds.map .d)] []=some ⟨.agg [.d (.str c0),.d (.int .i64 c1),.d (.int .i64 c2),.arr (0,0) (224,4) none true],[],[some (.orows (224,4) y3)]⟩/\Own Tryz.prog n 226 [.str c0,.int .i64 c1,.int .i64 c2,.own (224,4) y3]/\aV y3=x3
def Ke (o:aK) (n:Nat):Prop:=∀ds,Fits Tryz.prog n 245 ds->kO 1048576 ds->∃(c0 c1:Int) (c2:ByteArray) (x3 y3:List D),ds=[.int .i64 c0,.int .i64 c1,.str c2,.lst x3]/\o.call 179 [.agg (ds.map .d)] []=some ⟨.agg [.d (.int .i64 c0),.d (.int .i64 c1),.d (.str c2),.arr (0,0) (249,4) none true],[],[some (.orows (249,4) y3)]⟩/\Own Tryz.prog n 249 [.int .i64 c0,.int .i64 c1,.str c2,.own (249,4) y3]/\aV y3=x3
def FM (o:aK) (n:Nat):Prop:=∀xs,Fits Tryz.prog n 240 [.lst xs]->Sm 1048576 (.lst xs)->∃ys,o.call 275 [.d (.lst xs)] []=some ⟨.arr (0,0) (224,4) none true,[],[some (.orows (224,4) ys)]⟩/\aV ys=xs/\Own Tryz.prog n 216 [.own (224,4) ys]
def Kf (o:aK) (n:Nat):Prop:=∀ds,Fits Tryz.prog n 388 ds->kO 1048576 ds->∃(c0 c1:Int) (c2:ByteArray) (c3:Int),ds=[.int .i64 c0,.int .i64 c1,.str c2,.int .i64 c3]/\o.call 342 [.agg (ds.map .d)] []=some ⟨.agg [.d (.int .i64 c0),.d (.int .i64 c1),.d (.str c2),.d (.int .i64 c3)],[],[]⟩/\Own Tryz.prog n 224 [.int .i64 c0,.int .i64 c1,.str c2,.int .i64 c3]/\True
def nL (o:aK) (n:Nat):Prop:=FJ o n/\CZ o n/\Kd o n/\FK o n/\FL o n/\Nj o n/\Ke o n/\FM o n/\Kf o n
include ho
theorem DQ (x0 y0 x1 y1:List D) (q0:o.call 86 [Al x0] []=some ⟨.arr (0,0) (226,4) none true,[],[some (.orows (226,4) y0)]⟩) (q1:o.call 87 [Al x1] []=some ⟨.arr (0,0) (249,4) none true,[],[some (.orows (249,4) y1)]⟩):o.call 17 [.agg [Al x0,Al x1]] []=some ⟨.agg [.arr (0,0) (226,4) none true,.arr (0,1) (249,4) none true],[],[some (.orows (226,4) y0),some (.orows (249,4) y1)]⟩:=by
 refine ho.aq ?_
 cbv
 rw [q0]
 cbv
 rw [q1]
 cbv
theorem toCode {n:Nat} (ih:nL o n):FJ o (n+1):=by
 intro ds h hs;obtain ⟨ac0,ac1,rfl,ah0,ah1⟩:=yA h;simp only [kO]at hs;have k0:=ah0;obtain ⟨x0,m0,em0,e_,w0,v0⟩:=bn Tryz.underlying22 ah0;injection e_ with e_;subst e_;obtain ⟨y0,q0,f0,g0⟩:=(ih.2.2.1) x0 k0 (by simp [hs]);have k1:=ah1;obtain ⟨x1,m1,em1,e_,w1,v1⟩:=bn Tryz.underlying23 ah1;injection e_ with e_;subst e_;obtain ⟨y1,q1,f1,g1⟩:=(ih.2.2.2.1) x1 k1 (by simp [hs]);exact ⟨x0,y0,x1,y1,rfl,DQ ho x0 y0 x1 y1 q0 q1,IL ⟨g0,g1⟩,f0,f1⟩
theorem qu (nn:Nat) (xs:List D) (n:Int) (hn:o.len xs=n) (hm:n<=9223372036854775807) (hx:∀x∈xs,∃(c0 c1:Int) (c2:ByteArray) (x3 y3:List D),x= .agg [.int .i64 c0,.int .i64 c1,.str c2,.lst x3]/\o.call 88 [At c0 c1 c2 x3] []=some ⟨.agg [Ai c0,Ai c1,As c2,.arr (0,0) (31,4) none true],[],[Oq y3]⟩/\Own Tryz.prog nn 31 [.int .i64 c0,.int .i64 c1,.str c2,.own (31,4) y3]/\aV y3=x3):∀(m:Nat) (k:Int) (ys:List D),0<=k->k+m=n->ys.length=xs.length->(∀y∈ys,∃d0 d1 d2 d3,y= .agg [d0,d1,d2,d3])->
  ∃zs,o.loop 1800 ⟨[Al xs,U,U,.arr (7,0) (31,4) none true,Ai k,U,U,U,U,U,U,U,U,U,U,U,U,U,U,U,U,U,U],[[],[],[],[],[],[],[],[Oq ys],[],[],[],[],[],[],[],[],[],[],[],[],[],[],[]]⟩=some (.exit 0,⟨[U,U,U,.arr (7,0) (31,4) none true,U,U,U,U,U,U,U,U,U,U,U,U,U,U,U,U,U,U,U],[[],[],[],[],[],[],[],[Oq zs],[],[],[],[],[],[],[],[],[],[],[],[],[],[],[]]⟩)/\zs.length=xs.length/\(∀j,j<k.toNat->zs[j]? =ys[j]?)/\∀j,k.toNat<=j->∀x z,xs[j]? =some x->zs[j]? =some z->bD z=x/\Own Tryz.prog nn 31 z.cells/\z.many=true
 | 0,k,ys,h0,h,hy,hd=>by
  have hk:k=n:=by omega
  subst hk;have hl:(xs.length:Int)=k:=by rw [<-hn,ho.len]
  have h2:=jm ho k;refine ⟨ys,ho.ay ?_,hy,fun _ _=>rfl,fun j hj x z hx _=> ?_⟩
  ·clear hx hl hd
   cbv
   repeat ((first | rw [hn] | rw [h2]);(try cbv))
  ·have:=(ai.1 hx).1;omega
 | m+1,k,ys,h0,h,hy,hd=>by
  have hl:(xs.length:Int)=n:=by rw [<-hn,ho.len]
  have hk:k.toNat<xs.length:=by omega
  obtain ⟨x,hxk⟩:∃x,xs[k.toNat]? =some x:=⟨_,aN hk⟩
  obtain ⟨y,hyk⟩:∃y,ys[k.toNat]? =some y:=⟨_,aN (by omega)⟩
  obtain ⟨c0,c1,c2,x3,y3,rfl,hc,hown,hfz⟩:=hx x (List.mem_of_getElem? hxk);obtain ⟨d0,d1,d2,d3,rfl⟩:=hd y (List.mem_of_getElem? hyk);obtain ⟨zs,i1,i2,i3,i4⟩:=qu nn xs n hn hm hx m (k+1) (o.set ys k (.agg [.int .i64 c0,.int .i64 c1,.str c2,.own (31,4) y3])) (by omega) (by omega) (by rw [ho.set];simpa using hy) (by
   rw [ho.set];intro y hy;rcases List.mem_or_eq_of_mem_set hy with hy | rfl
   ·exact hd y hy
   ·exact ⟨_,_,_,_,rfl⟩)
  have h2:=fX ho (show k<n by omega);have h3:o.dm xs k=some (.agg [.int .i64 c0,.int .i64 c1,.str c2,.lst x3]):=bN ho xs k _ h0 hxk;have h5:=bN ho ys k _ h0 hyk;have h4:=inc ho h0 (show k<n by omega) hm;refine ⟨zs,ho.ay ?_,i2,fun j hj=> ?_,fun j hj x z hxj hzj=> ?_⟩
  ·clear hx hl hd i4 hown hfz
   cbv
   repeat ((first | rw [hn] | rw [h2] | rw [h3] | rw [hc] | rw [h5] | rw [h4] | exact i1);(try cbv))
  ·rw [i3 j (by omega),ho.set,List.getElem?_set_ne (by omega)]
  ·by_cases hjk:j=k.toNat
   ·subst hjk;rw [hxk]at hxj;injection hxj with hxj;subst hxj;rw [i3 _ (by omega),ho.set,List.getElem?_set_self (by omega)]at hzj;injection hzj with hzj;subst hzj;exact ⟨by simp only [bD,aV,hfz],hown,rfl⟩
   ·exact i4 j (by omega) x z hxj hzj
theorem IU {n:Nat} (ih:nL o n):CZ o (n+1):=by
 intro xs h hs;obtain ⟨ys,m,em,e_,w,v⟩:=bn Tryz.underlying26 h;injection e_ with e_;injection e_ with e_;subst e_;injection em with em;subst em;simp only [Sm,gj]at hs;have hm:((xs.length:Nat):Int)<=1048576:=by omega
 have hx:∀x∈xs,∃(c0:Int) (c1:Int) (c2:ByteArray) (x3:List D) (y3:List D),x= .agg [.int .i64 c0,.int .i64 c1,.str c2,.lst x3]/\o.call 88 [At c0 c1 c2 x3] []=some ⟨.agg [Ai c0,Ai c1,As c2,.arr (0,0) (31,4) none true],[],[Oq y3]⟩/\Own Tryz.prog n 31 [.int .i64 c0,.int .i64 c1,.str c2,.own (31,4) y3]/\aV y3=x3:=by
  intro x hx;obtain ⟨f1,f2⟩:=v x hx;rw [show cE Tryz.prog 62=true by unfold cE;rw [Tryz.underlying62]]at f2;obtain ⟨c0,c1,c2,x3,y3,e1,q,g,z⟩:=(ih.2.2.2.2.1) _ f1 (gH (hs.2 x hx));rw [e1]at q;exact ⟨c0,c1,c2,x3,y3,by rw [bZ f2,e1],q,g,z⟩
 have hn:o.len xs=((xs.length:Nat):Int):=ho.len xs;have h0:(0:Int)<=((xs.length:Nat):Int):=by omega
 have hN2:(((xs.length:Nat):Int)).toNat=xs.length:=by omega
 generalize hN:((xs.length:Nat):Int)=N at hn hm h0 hN2;obtain ⟨zs,i1,i2,i3,i4⟩:=qu ho n xs N hn (by omega) hx xs.length 0 (o.lW N (.agg [(.int .i64 0),(.int .i64 0),(.str ⟨#[]⟩),.lst []])) (Int.le_refl _) (by omega) (by rw [ho.lW];simp [hN2]) (by rw [ho.lW];intro y hy;rw [(List.mem_replicate.1 hy).2];exact ⟨_,_,_,_,rfl⟩);have h2:o.cmp .eql N N=true:=by rw [ho.cmp];simp [Vi.eV]
 have h3:o.eP 56 N=true:=by rw [ho.eP];simp;omega
 have h4:o.flat (o.lW N (.agg [(.int .i64 0),(.int .i64 0),(.str ⟨#[]⟩),.lst []]))=true:=by rw [ho.flat,ho.lW];simp [List.all_eq_true,dD]
 refine ⟨zs,ho.aq ?_,?_,?_⟩
 ·clear hx hs i3 i4 v
  cbv
  repeat ((first | rw [hn] | rw [h2] | rw [h3] | rw [h4] | rw [i1]);(try cbv))
 ·rw [f9];apply List.ext_getElem?;intro j;rw [List.getElem?_map];cases hj:xs[j]? with
  | none=>rw [List.getElem?_eq_none (by rw [i2];exact List.getElem?_eq_none_iff.1 hj)];rfl
  | some x=>
   obtain ⟨z,hz⟩:∃z,zs[j]? =some z:=⟨_,aN (by rw [i2];exact (ai.1 hj).1)⟩
   rw [hz,Option.map_some,(i4 j (by simp) x z hj hz).1]
 ·refine kA Tryz.underlying29 Ae (by rw [i2];exact w) fun z hz=> ?_
  obtain ⟨j,hj⟩:=List.getElem?_of_mem hz;obtain ⟨x,hxj⟩:∃x,xs[j]? =some x:=⟨_,aN (by rw [<-i2];exact (ai.1 hj).1)⟩
  obtain ⟨_,r2,r3⟩:=i4 j (by simp) x z hxj hj;exact ⟨r2,by rw [r3];unfold cE;rw [Tryz.underlying31]⟩
theorem u5 (nn:Nat) (xs:List D) (n:Int) (hn:o.len xs=n) (hm:n<=9223372036854775807) (hx:∀x∈xs,∃(c0:ByteArray) (c1 c2:Int) (x3 y3:List D),x= .agg [.str c0,.int .i64 c1,.int .i64 c2,.lst x3]/\o.call 178 [.agg [As c0,Ai c1,Ai c2,Al x3]] []=some ⟨.agg [As c0,Ai c1,Ai c2,.arr (0,0) (224,4) none true],[],[some (.orows (224,4) y3)]⟩/\Own Tryz.prog nn 226 [.str c0,.int .i64 c1,.int .i64 c2,.own (224,4) y3]/\aV y3=x3):∀(m:Nat) (k:Int) (ys:List D),0<=k->k+m=n->ys.length=xs.length->(∀y∈ys,∃d0 d1 d2 d3,y= .agg [d0,d1,d2,d3])->
  ∃zs,o.loop 8600 ⟨[Al xs,U,U,.arr (7,0) (226,4) none true,Ai k,U,U,U,U,U,U,U,U,U,U,U,U,U,U,U,U,U,U],[[],[],[],[],[],[],[],[some (.orows (226,4) ys)],[],[],[],[],[],[],[],[],[],[],[],[],[],[],[]]⟩=some (.exit 0,⟨[U,U,U,.arr (7,0) (226,4) none true,U,U,U,U,U,U,U,U,U,U,U,U,U,U,U,U,U,U,U],[[],[],[],[],[],[],[],[some (.orows (226,4) zs)],[],[],[],[],[],[],[],[],[],[],[],[],[],[],[]]⟩)/\zs.length=xs.length/\(∀j,j<k.toNat->zs[j]? =ys[j]?)/\∀j,k.toNat<=j->∀x z,xs[j]? =some x->zs[j]? =some z->bD z=x/\Own Tryz.prog nn 226 z.cells/\z.many=true
 | 0,k,ys,h0,h,hy,hd=>by
  have hk:k=n:=by omega
  subst hk;have hl:(xs.length:Int)=k:=by rw [<-hn,ho.len]
  have h2:=jm ho k;refine ⟨ys,ho.ay ?_,hy,fun _ _=>rfl,fun j hj x z hx _=> ?_⟩
  ·clear hx hl hd
   cbv
   repeat ((first | rw [hn] | rw [h2]);(try cbv))
  ·have:=(ai.1 hx).1;omega
 | m+1,k,ys,h0,h,hy,hd=>by
  have hl:(xs.length:Int)=n:=by rw [<-hn,ho.len]
  have hk:k.toNat<xs.length:=by omega
  obtain ⟨x,hxk⟩:∃x,xs[k.toNat]? =some x:=⟨_,aN hk⟩
  obtain ⟨y,hyk⟩:∃y,ys[k.toNat]? =some y:=⟨_,aN (by omega)⟩
  obtain ⟨c0,c1,c2,x3,y3,rfl,hc,hown,hfz⟩:=hx x (List.mem_of_getElem? hxk);obtain ⟨d0,d1,d2,d3,rfl⟩:=hd y (List.mem_of_getElem? hyk);obtain ⟨zs,i1,i2,i3,i4⟩:=u5 nn xs n hn hm hx m (k+1) (o.set ys k (.agg [.str c0,.int .i64 c1,.int .i64 c2,.own (224,4) y3])) (by omega) (by omega) (by rw [ho.set];simpa using hy) (by
   rw [ho.set];intro y hy;rcases List.mem_or_eq_of_mem_set hy with hy | rfl
   ·exact hd y hy
   ·exact ⟨_,_,_,_,rfl⟩)
  have h2:=fX ho (show k<n by omega);have h3:o.dm xs k=some (.agg [.str c0,.int .i64 c1,.int .i64 c2,.lst x3]):=bN ho xs k _ h0 hxk;have h5:=bN ho ys k _ h0 hyk;have h4:=inc ho h0 (show k<n by omega) hm;refine ⟨zs,ho.ay ?_,i2,fun j hj=> ?_,fun j hj x z hxj hzj=> ?_⟩
  ·clear hx hl hd i4 hown hfz
   cbv
   repeat ((first | rw [hn] | rw [h2] | rw [h3] | rw [hc] | rw [h5] | rw [h4] | exact i1);(try cbv))
  ·rw [i3 j (by omega),ho.set,List.getElem?_set_ne (by omega)]
  ·by_cases hjk:j=k.toNat
   ·subst hjk;rw [hxk]at hxj;injection hxj with hxj;subst hxj;rw [i3 _ (by omega),ho.set,List.getElem?_set_self (by omega)]at hzj;injection hzj with hzj;subst hzj;exact ⟨by simp only [bD,aV,hfz],hown,rfl⟩
   ·exact i4 j (by omega) x z hxj hzj
theorem Nk {n:Nat} (ih:nL o n):Kd o (n+1):=by
 intro xs h hs;obtain ⟨ys,m,em,e_,w,v⟩:=bn Tryz.underlying22 h;injection e_ with e_;injection e_ with e_;subst e_;injection em with em;subst em;simp only [Sm,gj]at hs;have hm:((xs.length:Nat):Int)<=1048576:=by omega
 have hx:∀x∈xs,∃(c0:ByteArray) (c1:Int) (c2:Int) (x3:List D) (y3:List D),x= .agg [.str c0,.int .i64 c1,.int .i64 c2,.lst x3]/\o.call 178 [.agg [As c0,Ai c1,Ai c2,Al x3]] []=some ⟨.agg [As c0,Ai c1,Ai c2,.arr (0,0) (224,4) none true],[],[some (.orows (224,4) y3)]⟩/\Own Tryz.prog n 226 [.str c0,.int .i64 c1,.int .i64 c2,.own (224,4) y3]/\aV y3=x3:=by
  intro x hx;obtain ⟨f1,f2⟩:=v x hx;rw [show cE Tryz.prog 242=true by unfold cE;rw [Tryz.underlying242]]at f2;obtain ⟨c0,c1,c2,x3,y3,e1,q,g,z⟩:=(ih.2.2.2.2.2.1) _ f1 (gH (hs.2 x hx));rw [e1]at q;exact ⟨c0,c1,c2,x3,y3,by rw [bZ f2,e1],q,g,z⟩
 have hn:o.len xs=((xs.length:Nat):Int):=ho.len xs;have h0:(0:Int)<=((xs.length:Nat):Int):=by omega
 have hN2:(((xs.length:Nat):Int)).toNat=xs.length:=by omega
 generalize hN:((xs.length:Nat):Int)=N at hn hm h0 hN2;obtain ⟨zs,i1,i2,i3,i4⟩:=u5 ho n xs N hn (by omega) hx xs.length 0 (o.lW N (.agg [(.str ⟨#[]⟩),(.int .i64 0),(.int .i64 0),.lst []])) (Int.le_refl _) (by omega) (by rw [ho.lW];simp [hN2]) (by rw [ho.lW];intro y hy;rw [(List.mem_replicate.1 hy).2];exact ⟨_,_,_,_,rfl⟩);have h2:o.cmp .eql N N=true:=by rw [ho.cmp];simp [Vi.eV]
 have h3:o.eP 56 N=true:=by rw [ho.eP];simp;omega
 have h4:o.flat (o.lW N (.agg [(.str ⟨#[]⟩),(.int .i64 0),(.int .i64 0),.lst []]))=true:=by rw [ho.flat,ho.lW];simp [List.all_eq_true,dD]
 refine ⟨zs,ho.aq ?_,?_,?_⟩
 ·clear hx hs i3 i4 v
  cbv
  repeat ((first | rw [hn] | rw [h2] | rw [h3] | rw [h4] | rw [i1]);(try cbv))
 ·rw [f9];apply List.ext_getElem?;intro j;rw [List.getElem?_map];cases hj:xs[j]? with
  | none=>rw [List.getElem?_eq_none (by rw [i2];exact List.getElem?_eq_none_iff.1 hj)];rfl
  | some x=>
   obtain ⟨z,hz⟩:∃z,zs[j]? =some z:=⟨_,aN (by rw [i2];exact (ai.1 hj).1)⟩
   rw [hz,Option.map_some,(i4 j (by simp) x z hj hz).1]
 ·refine kA Tryz.underlying34 Af (by rw [i2];exact w) fun z hz=> ?_
  obtain ⟨j,hj⟩:=List.getElem?_of_mem hz;obtain ⟨x,hxj⟩:∃x,xs[j]? =some x:=⟨_,aN (by rw [<-i2];exact (ai.1 hj).1)⟩
  obtain ⟨_,r2,r3⟩:=i4 j (by simp) x z hxj hj;exact ⟨r2,by rw [r3];unfold cE;rw [Tryz.underlying226]⟩
theorem sD (nn:Nat) (xs:List D) (n:Int) (hn:o.len xs=n) (hm:n<=9223372036854775807) (hx:∀x∈xs,∃(c0 c1:Int) (c2:ByteArray) (x3 y3:List D),x= .agg [.int .i64 c0,.int .i64 c1,.str c2,.lst x3]/\o.call 179 [At c0 c1 c2 x3] []=some ⟨.agg [Ai c0,Ai c1,As c2,.arr (0,0) (249,4) none true],[],[some (.orows (249,4) y3)]⟩/\Own Tryz.prog nn 249 [.int .i64 c0,.int .i64 c1,.str c2,.own (249,4) y3]/\aV y3=x3):∀(m:Nat) (k:Int) (ys:List D),0<=k->k+m=n->ys.length=xs.length->(∀y∈ys,∃d0 d1 d2 d3,y= .agg [d0,d1,d2,d3])->
  ∃zs,o.loop 8700 ⟨[Al xs,U,U,.arr (7,0) (249,4) none true,Ai k,U,U,U,U,U,U,U,U,U,U,U,U,U,U,U,U,U,U],[[],[],[],[],[],[],[],[some (.orows (249,4) ys)],[],[],[],[],[],[],[],[],[],[],[],[],[],[],[]]⟩=some (.exit 0,⟨[U,U,U,.arr (7,0) (249,4) none true,U,U,U,U,U,U,U,U,U,U,U,U,U,U,U,U,U,U,U],[[],[],[],[],[],[],[],[some (.orows (249,4) zs)],[],[],[],[],[],[],[],[],[],[],[],[],[],[],[]]⟩)/\zs.length=xs.length/\(∀j,j<k.toNat->zs[j]? =ys[j]?)/\∀j,k.toNat<=j->∀x z,xs[j]? =some x->zs[j]? =some z->bD z=x/\Own Tryz.prog nn 249 z.cells/\z.many=true
 | 0,k,ys,h0,h,hy,hd=>by
  have hk:k=n:=by omega
  subst hk;have hl:(xs.length:Int)=k:=by rw [<-hn,ho.len]
  have h2:=jm ho k;refine ⟨ys,ho.ay ?_,hy,fun _ _=>rfl,fun j hj x z hx _=> ?_⟩
  ·clear hx hl hd
   cbv
   repeat ((first | rw [hn] | rw [h2]);(try cbv))
  ·have:=(ai.1 hx).1;omega
 | m+1,k,ys,h0,h,hy,hd=>by
  have hl:(xs.length:Int)=n:=by rw [<-hn,ho.len]
  have hk:k.toNat<xs.length:=by omega
  obtain ⟨x,hxk⟩:∃x,xs[k.toNat]? =some x:=⟨_,aN hk⟩
  obtain ⟨y,hyk⟩:∃y,ys[k.toNat]? =some y:=⟨_,aN (by omega)⟩
  obtain ⟨c0,c1,c2,x3,y3,rfl,hc,hown,hfz⟩:=hx x (List.mem_of_getElem? hxk);obtain ⟨d0,d1,d2,d3,rfl⟩:=hd y (List.mem_of_getElem? hyk);obtain ⟨zs,i1,i2,i3,i4⟩:=sD nn xs n hn hm hx m (k+1) (o.set ys k (.agg [.int .i64 c0,.int .i64 c1,.str c2,.own (249,4) y3])) (by omega) (by omega) (by rw [ho.set];simpa using hy) (by
   rw [ho.set];intro y hy;rcases List.mem_or_eq_of_mem_set hy with hy | rfl
   ·exact hd y hy
   ·exact ⟨_,_,_,_,rfl⟩)
  have h2:=fX ho (show k<n by omega);have h3:o.dm xs k=some (.agg [.int .i64 c0,.int .i64 c1,.str c2,.lst x3]):=bN ho xs k _ h0 hxk;have h5:=bN ho ys k _ h0 hyk;have h4:=inc ho h0 (show k<n by omega) hm;refine ⟨zs,ho.ay ?_,i2,fun j hj=> ?_,fun j hj x z hxj hzj=> ?_⟩
  ·clear hx hl hd i4 hown hfz
   cbv
   repeat ((first | rw [hn] | rw [h2] | rw [h3] | rw [hc] | rw [h5] | rw [h4] | exact i1);(try cbv))
  ·rw [i3 j (by omega),ho.set,List.getElem?_set_ne (by omega)]
  ·by_cases hjk:j=k.toNat
   ·subst hjk;rw [hxk]at hxj;injection hxj with hxj;subst hxj;rw [i3 _ (by omega),ho.set,List.getElem?_set_self (by omega)]at hzj;injection hzj with hzj;subst hzj;exact ⟨by simp only [bD,aV,hfz],hown,rfl⟩
   ·exact i4 j (by omega) x z hxj hzj
theorem Lp {n:Nat} (ih:nL o n):FK o (n+1):=by
 intro xs h hs;obtain ⟨ys,m,em,e_,w,v⟩:=bn Tryz.underlying23 h;injection e_ with e_;injection e_ with e_;subst e_;injection em with em;subst em;simp only [Sm,gj]at hs;have hm:((xs.length:Nat):Int)<=1048576:=by omega
 have hx:∀x∈xs,∃(c0:Int) (c1:Int) (c2:ByteArray) (x3:List D) (y3:List D),x= .agg [.int .i64 c0,.int .i64 c1,.str c2,.lst x3]/\o.call 179 [At c0 c1 c2 x3] []=some ⟨.agg [Ai c0,Ai c1,As c2,.arr (0,0) (249,4) none true],[],[some (.orows (249,4) y3)]⟩/\Own Tryz.prog n 249 [.int .i64 c0,.int .i64 c1,.str c2,.own (249,4) y3]/\aV y3=x3:=by
  intro x hx;obtain ⟨f1,f2⟩:=v x hx;rw [show cE Tryz.prog 245=true by unfold cE;rw [Tryz.underlying245]]at f2;obtain ⟨c0,c1,c2,x3,y3,e1,q,g,z⟩:=(ih.2.2.2.2.2.2.1) _ f1 (gH (hs.2 x hx));rw [e1]at q;exact ⟨c0,c1,c2,x3,y3,by rw [bZ f2,e1],q,g,z⟩
 have hn:o.len xs=((xs.length:Nat):Int):=ho.len xs;have h0:(0:Int)<=((xs.length:Nat):Int):=by omega
 have hN2:(((xs.length:Nat):Int)).toNat=xs.length:=by omega
 generalize hN:((xs.length:Nat):Int)=N at hn hm h0 hN2;obtain ⟨zs,i1,i2,i3,i4⟩:=sD ho n xs N hn (by omega) hx xs.length 0 (o.lW N (.agg [(.int .i64 0),(.int .i64 0),(.str ⟨#[]⟩),.lst []])) (Int.le_refl _) (by omega) (by rw [ho.lW];simp [hN2]) (by rw [ho.lW];intro y hy;rw [(List.mem_replicate.1 hy).2];exact ⟨_,_,_,_,rfl⟩);have h2:o.cmp .eql N N=true:=by rw [ho.cmp];simp [Vi.eV]
 have h3:o.eP 56 N=true:=by rw [ho.eP];simp;omega
 have h4:o.flat (o.lW N (.agg [(.int .i64 0),(.int .i64 0),(.str ⟨#[]⟩),.lst []]))=true:=by rw [ho.flat,ho.lW];simp [List.all_eq_true,dD]
 refine ⟨zs,ho.aq ?_,?_,?_⟩
 ·clear hx hs i3 i4 v
  cbv
  repeat ((first | rw [hn] | rw [h2] | rw [h3] | rw [h4] | rw [i1]);(try cbv))
 ·rw [f9];apply List.ext_getElem?;intro j;rw [List.getElem?_map];cases hj:xs[j]? with
  | none=>rw [List.getElem?_eq_none (by rw [i2];exact List.getElem?_eq_none_iff.1 hj)];rfl
  | some x=>
   obtain ⟨z,hz⟩:∃z,zs[j]? =some z:=⟨_,aN (by rw [i2];exact (ai.1 hj).1)⟩
   rw [hz,Option.map_some,(i4 j (by simp) x z hj hz).1]
 ·refine kA Tryz.underlying35 xj (by rw [i2];exact w) fun z hz=> ?_
  obtain ⟨j,hj⟩:=List.getElem?_of_mem hz;obtain ⟨x,hxj⟩:∃x,xs[j]? =some x:=⟨_,aN (by rw [<-i2];exact (ai.1 hj).1)⟩
  obtain ⟨_,r2,r3⟩:=i4 j (by simp) x z hxj hj;exact ⟨r2,by rw [r3];unfold cE;rw [Tryz.underlying249]⟩
theorem DR (c0 c1:Int) (c2:ByteArray) (x3 y3:List D) (q3:o.call 18 [Al x3] []=some ⟨.arr (0,0) (31,4) none true,[],[Oq y3]⟩):o.call 88 [At c0 c1 c2 x3] []=some ⟨.agg [Ai c0,Ai c1,As c2,.arr (0,0) (31,4) none true],[],[Oq y3]⟩:=by
 refine ho.aq ?_
 cbv
 rw [q3]
 cbv
theorem Lr {n:Nat} (ih:nL o n):FL o (n+1):=by
 intro ds h hs;obtain ⟨ac0,ac1,ac2,ac3,rfl,ah0,ah1,ah2,ah3⟩:=yB h;simp only [kO]at hs;have k0:=ah0;obtain ⟨x0,e_,w0⟩:=fits_int Tryz.underlying3 ah0;injection e_ with e_;subst e_;have k1:=ah1;obtain ⟨x1,e_,w1⟩:=fits_int Tryz.underlying3 ah1;injection e_ with e_;subst e_;have k2:=ah2;obtain ⟨x2,e_,w2⟩:=fu Tryz.underlying9 ah2;injection e_ with e_;subst e_;have k3:=ah3;obtain ⟨x3,m3,em3,e_,w3,v3⟩:=bn Tryz.underlying26 ah3;injection e_ with e_;subst e_;obtain ⟨y3,q3,f3,g3⟩:=(ih.2.1) x3 k3 (by simp [hs]);exact ⟨x0,x1,x2,x3,y3,rfl,DR ho x0 x1 x2 x3 y3 q3,CU ⟨(cS (by rw [Tryz.underlying3]) k0),(cS (by rw [Tryz.underlying3]) k1),(cS (by rw [Tryz.underlying9]) k2),g3⟩,f3⟩
theorem IV (c0:ByteArray) (c1 c2:Int) (x3 y3:List D) (q3:o.call 275 [Al x3] []=some ⟨.arr (0,0) (224,4) none true,[],[some (.orows (224,4) y3)]⟩):o.call 178 [.agg [As c0,Ai c1,Ai c2,Al x3]] []=some ⟨.agg [As c0,Ai c1,Ai c2,.arr (0,0) (224,4) none true],[],[some (.orows (224,4) y3)]⟩:=by
 refine ho.aq ?_
 cbv
 rw [q3]
 cbv
theorem Oc {n:Nat} (ih:nL o n):Nj o (n+1):=by
 intro ds h hs;obtain ⟨ac0,ac1,ac2,ac3,rfl,ah0,ah1,ah2,ah3⟩:=tR h;simp only [kO]at hs;have k0:=ah0;obtain ⟨x0,e_,w0⟩:=fu Tryz.underlying9 ah0;injection e_ with e_;subst e_;have k1:=ah1;obtain ⟨x1,e_,w1⟩:=fits_int Tryz.underlying3 ah1;injection e_ with e_;subst e_;have k2:=ah2;obtain ⟨x2,e_,w2⟩:=fits_int Tryz.underlying3 ah2;injection e_ with e_;subst e_;have k3:=ah3;obtain ⟨x3,m3,em3,e_,w3,v3⟩:=bn Tryz.underlying240 ah3;injection e_ with e_;subst e_;obtain ⟨y3,q3,f3,g3⟩:=(ih.2.2.2.2.2.2.2.1) x3 k3 (by simp [hs]);exact ⟨x0,x1,x2,x3,y3,rfl,IV ho x0 x1 x2 x3 y3 q3,FC ⟨(cS (by rw [Tryz.underlying9]) k0),(cS (by rw [Tryz.underlying3]) k1),(cS (by rw [Tryz.underlying3]) k2),g3⟩,f3⟩
theorem FN (c0 c1:Int) (c2:ByteArray) (x3 y3:List D) (q3:o.call 87 [Al x3] []=some ⟨.arr (0,0) (249,4) none true,[],[some (.orows (249,4) y3)]⟩):o.call 179 [At c0 c1 c2 x3] []=some ⟨.agg [Ai c0,Ai c1,As c2,.arr (0,0) (249,4) none true],[],[some (.orows (249,4) y3)]⟩:=by
 refine ho.aq ?_
 cbv
 rw [q3]
 cbv
theorem Nl {n:Nat} (ih:nL o n):Ke o (n+1):=by
 intro ds h hs;obtain ⟨ac0,ac1,ac2,ac3,rfl,ah0,ah1,ah2,ah3⟩:=tT h;simp only [kO]at hs;have k0:=ah0;obtain ⟨x0,e_,w0⟩:=fits_int Tryz.underlying3 ah0;injection e_ with e_;subst e_;have k1:=ah1;obtain ⟨x1,e_,w1⟩:=fits_int Tryz.underlying3 ah1;injection e_ with e_;subst e_;have k2:=ah2;obtain ⟨x2,e_,w2⟩:=fu Tryz.underlying9 ah2;injection e_ with e_;subst e_;have k3:=ah3;obtain ⟨x3,m3,em3,e_,w3,v3⟩:=bn Tryz.underlying23 ah3;injection e_ with e_;subst e_;obtain ⟨y3,q3,f3,g3⟩:=(ih.2.2.2.1) x3 k3 (by simp [hs]);exact ⟨x0,x1,x2,x3,y3,rfl,FN ho x0 x1 x2 x3 y3 q3,FD ⟨(cS (by rw [Tryz.underlying3]) k0),(cS (by rw [Tryz.underlying3]) k1),(cS (by rw [Tryz.underlying9]) k2),g3⟩,f3⟩
theorem sF (nn:Nat) (xs:List D) (n:Int) (hn:o.len xs=n) (hm:n<=9223372036854775807) (hx:∀x∈xs,∃(c0 c1:Int) (c2:ByteArray) (c3:Int),x= .agg [.int .i64 c0,.int .i64 c1,.str c2,.int .i64 c3]/\o.call 342 [.agg [Ai c0,Ai c1,As c2,Ai c3]] []=Ar (.agg [Ai c0,Ai c1,As c2,Ai c3])/\Own Tryz.prog nn 224 [.int .i64 c0,.int .i64 c1,.str c2,.int .i64 c3]/\True):∀(m:Nat) (k:Int) (ys:List D),0<=k->k+m=n->ys.length=xs.length->(∀y∈ys,∃d0 d1 d2 d3,y= .agg [d0,d1,d2,d3])->
  ∃zs,o.loop 27500 ⟨[Al xs,U,U,.arr (7,0) (224,4) none true,Ai k,U,U,U,U,U,U,U,U,U,U,U,U,U,U,U,U,U,U],[[],[],[],[],[],[],[],[some (.orows (224,4) ys)],[],[],[],[],[],[],[],[],[],[],[],[],[],[],[]]⟩=some (.exit 0,⟨[U,U,U,.arr (7,0) (224,4) none true,U,U,U,U,U,U,U,U,U,U,U,U,U,U,U,U,U,U,U],[[],[],[],[],[],[],[],[some (.orows (224,4) zs)],[],[],[],[],[],[],[],[],[],[],[],[],[],[],[]]⟩)/\zs.length=xs.length/\(∀j,j<k.toNat->zs[j]? =ys[j]?)/\∀j,k.toNat<=j->∀x z,xs[j]? =some x->zs[j]? =some z->bD z=x/\Own Tryz.prog nn 224 z.cells/\z.many=true
 | 0,k,ys,h0,h,hy,hd=>by
  have hk:k=n:=by omega
  subst hk;have hl:(xs.length:Int)=k:=by rw [<-hn,ho.len]
  have h2:=jm ho k;refine ⟨ys,ho.ay ?_,hy,fun _ _=>rfl,fun j hj x z hx _=> ?_⟩
  ·clear hx hl hd
   cbv
   repeat ((first | rw [hn] | rw [h2]);(try cbv))
  ·have:=(ai.1 hx).1;omega
 | m+1,k,ys,h0,h,hy,hd=>by
  have hl:(xs.length:Int)=n:=by rw [<-hn,ho.len]
  have hk:k.toNat<xs.length:=by omega
  obtain ⟨x,hxk⟩:∃x,xs[k.toNat]? =some x:=⟨_,aN hk⟩
  obtain ⟨y,hyk⟩:∃y,ys[k.toNat]? =some y:=⟨_,aN (by omega)⟩
  obtain ⟨c0,c1,c2,c3,rfl,hc,hown,hfz⟩:=hx x (List.mem_of_getElem? hxk);obtain ⟨d0,d1,d2,d3,rfl⟩:=hd y (List.mem_of_getElem? hyk);obtain ⟨zs,i1,i2,i3,i4⟩:=sF nn xs n hn hm hx m (k+1) (o.set ys k (.agg [.int .i64 c0,.int .i64 c1,.str c2,.int .i64 c3])) (by omega) (by omega) (by rw [ho.set];simpa using hy) (by
   rw [ho.set];intro y hy;rcases List.mem_or_eq_of_mem_set hy with hy | rfl
   ·exact hd y hy
   ·exact ⟨_,_,_,_,rfl⟩)
  have h2:=fX ho (show k<n by omega);have h3:o.dm xs k=some (.agg [.int .i64 c0,.int .i64 c1,.str c2,.int .i64 c3]):=bN ho xs k _ h0 hxk;have h5:=bN ho ys k _ h0 hyk;have h4:=inc ho h0 (show k<n by omega) hm;refine ⟨zs,ho.ay ?_,i2,fun j hj=> ?_,fun j hj x z hxj hzj=> ?_⟩
  ·clear hx hl hd i4 hown hfz
   cbv
   repeat ((first | rw [hn] | rw [h2] | rw [h3] | rw [hc] | rw [h5] | rw [h4] | exact i1);(try cbv))
  ·rw [i3 j (by omega),ho.set,List.getElem?_set_ne (by omega)]
  ·by_cases hjk:j=k.toNat
   ·subst hjk;rw [hxk]at hxj;injection hxj with hxj;subst hxj;rw [i3 _ (by omega),ho.set,List.getElem?_set_self (by omega)]at hzj;injection hzj with hzj;subst hzj;exact ⟨by simp only [bD,aV,hfz],hown,rfl⟩
   ·exact i4 j (by omega) x z hxj hzj
theorem Ls {n:Nat} (ih:nL o n):FM o (n+1):=by
 intro xs h hs;obtain ⟨ys,m,em,e_,w,v⟩:=bn Tryz.underlying240 h;injection e_ with e_;injection e_ with e_;subst e_;injection em with em;subst em;simp only [Sm,gj]at hs;have hm:((xs.length:Nat):Int)<=1048576:=by omega
 have hx:∀x∈xs,∃(c0:Int) (c1:Int) (c2:ByteArray) (c3:Int),x= .agg [.int .i64 c0,.int .i64 c1,.str c2,.int .i64 c3]/\o.call 342 [.agg [Ai c0,Ai c1,As c2,Ai c3]] []=Ar (.agg [Ai c0,Ai c1,As c2,Ai c3])/\Own Tryz.prog n 224 [.int .i64 c0,.int .i64 c1,.str c2,.int .i64 c3]/\True:=by
  intro x hx;obtain ⟨f1,f2⟩:=v x hx;rw [show cE Tryz.prog 388=true by unfold cE;rw [Tryz.underlying388]]at f2;obtain ⟨c0,c1,c2,c3,e1,q,g,z⟩:=(ih.2.2.2.2.2.2.2.2) _ f1 (gH (hs.2 x hx));rw [e1]at q;exact ⟨c0,c1,c2,c3,by rw [bZ f2,e1],q,g,z⟩
 have hn:o.len xs=((xs.length:Nat):Int):=ho.len xs;have h0:(0:Int)<=((xs.length:Nat):Int):=by omega
 have hN2:(((xs.length:Nat):Int)).toNat=xs.length:=by omega
 generalize hN:((xs.length:Nat):Int)=N at hn hm h0 hN2;obtain ⟨zs,i1,i2,i3,i4⟩:=sF ho n xs N hn (by omega) hx xs.length 0 (o.lW N (.agg [(.int .i64 0),(.int .i64 0),(.str ⟨#[]⟩),(.int .i64 0)])) (Int.le_refl _) (by omega) (by rw [ho.lW];simp [hN2]) (by rw [ho.lW];intro y hy;rw [(List.mem_replicate.1 hy).2];exact ⟨_,_,_,_,rfl⟩);have h2:o.cmp .eql N N=true:=by rw [ho.cmp];simp [Vi.eV]
 have h3:o.eP 40 N=true:=by rw [ho.eP];simp;omega
 have h4:o.flat (o.lW N (.agg [(.int .i64 0),(.int .i64 0),(.str ⟨#[]⟩),(.int .i64 0)]))=true:=by rw [ho.flat,ho.lW];simp [List.all_eq_true,dD]
 refine ⟨zs,ho.aq ?_,?_,?_⟩
 ·clear hx hs i3 i4 v
  cbv
  repeat ((first | rw [hn] | rw [h2] | rw [h3] | rw [h4] | rw [i1]);(try cbv))
 ·rw [f9];apply List.ext_getElem?;intro j;rw [List.getElem?_map];cases hj:xs[j]? with
  | none=>rw [List.getElem?_eq_none (by rw [i2];exact List.getElem?_eq_none_iff.1 hj)];rfl
  | some x=>
   obtain ⟨z,hz⟩:∃z,zs[j]? =some z:=⟨_,aN (by rw [i2];exact (ai.1 hj).1)⟩
   rw [hz,Option.map_some,(i4 j (by simp) x z hj hz).1]
 ·refine kA Tryz.underlying216 xh (by rw [i2];exact w) fun z hz=> ?_
  obtain ⟨j,hj⟩:=List.getElem?_of_mem hz;obtain ⟨x,hxj⟩:∃x,xs[j]? =some x:=⟨_,aN (by rw [<-i2];exact (ai.1 hj).1)⟩
  obtain ⟨_,r2,r3⟩:=i4 j (by simp) x z hxj hj;exact ⟨r2,by rw [r3];unfold cE;rw [Tryz.underlying224]⟩
theorem FO (c0 c1:Int) (c2:ByteArray) (c3:Int):o.call 342 [.agg [Ai c0,Ai c1,As c2,Ai c3]] []=Ar (.agg [Ai c0,Ai c1,As c2,Ai c3]):=by
 refine ho.aq ?_
 cbv
theorem Nm {n:Nat} (ih:nL o n):Kf o (n+1):=by
 intro ds h hs;obtain ⟨ac0,ac1,ac2,ac3,rfl,ah0,ah1,ah2,ah3⟩:=yC h;simp only [kO]at hs;have k0:=ah0;obtain ⟨x0,e_,w0⟩:=fits_int Tryz.underlying3 ah0;injection e_ with e_;subst e_;have k1:=ah1;obtain ⟨x1,e_,w1⟩:=fits_int Tryz.underlying3 ah1;injection e_ with e_;subst e_;have k2:=ah2;obtain ⟨x2,e_,w2⟩:=fu Tryz.underlying9 ah2;injection e_ with e_;subst e_;have k3:=ah3;obtain ⟨x3,e_,w3⟩:=fits_int Tryz.underlying3 ah3;injection e_ with e_;subst e_;exact ⟨x0,x1,x2,x3,rfl,FO ho x0 x1 x2 x3 ,FB ⟨(cS (by rw [Tryz.underlying3]) k0),(cS (by rw [Tryz.underlying3]) k1),(cS (by rw [Tryz.underlying9]) k2),(cS (by rw [Tryz.underlying3]) k3)⟩,trivial⟩
theorem sG:∀n,nL o n
 | 0=>by
  unfold nL;refine ⟨?_,?_,?_,?_,?_,?_,?_,?_,?_⟩<;>(intro x h;simp [Fits]at h)
 | n+1=>have ih:=sG n;⟨toCode ho ih,IU ho ih,Nk ho ih,Lp ho ih,Lr ho ih,Oc ho ih,Nl ho ih,Ls ho ih,Nm ho ih⟩
end T2
namespace T2
open Go Go.Vi Go.Proofs
set_option maxRecDepth 100000
section
variable {o:aK} (ho:aU cF bE o)
include ho
theorem C5:∀(n:Nat) (ds:List D),(Fits Tryz.prog n 62 ds\/Fits Tryz.prog n 245 ds)->kO 1048576 ds->Tm n (.agg ds):=by
 intro n;induction n using Nat.strongRecOn with
 | ind n ih=>
  intro ds h hs;cases n with
  | zero=>rcases h with h | h<;>simp [Fits]at h
  | succ n=>
   have key:∃k m s l,ds=[.int .i64 k,.int .i64 m,.str s,.lst l]/\(Fits Tryz.prog n 26 [.lst l]\/Fits Tryz.prog n 23 [.lst l]):=by
    rcases h with h | h
    ·obtain ⟨k,m,s,l,_,e,_⟩:=(sG ho (n+1)).2.2.2.2.1 ds h hs;subst e;obtain ⟨c0,c1,c2,c3,e2,_,_,_,f3⟩:=yB h;simp only [List.cons.injEq,and_true]at e2;obtain ⟨rfl,rfl,rfl,rfl⟩:=e2;exact ⟨k,m,s,l,rfl,.inl f3⟩
    ·obtain ⟨k,m,s,l,_,e,_⟩:=(sG ho (n+1)).2.2.2.2.2.2.1 ds h hs;subst e;obtain ⟨c0,c1,c2,c3,e2,_,_,_,f3⟩:=tT h;simp only [List.cons.injEq,and_true]at e2;obtain ⟨rfl,rfl,rfl,rfl⟩:=e2;exact ⟨k,m,s,l,rfl,.inr f3⟩
   obtain ⟨k,m,s,l,rfl,f3⟩:=key;simp only [kO,Sm,gj]at hs;refine ⟨k,m,s,l,rfl,by omega,by omega,fun x hx=> ?_⟩;cases n with
   | zero=>rcases f3 with h | h<;>simp [Fits]at h
   | succ n=>
    rcases f3 with f3 | f3
    ·obtain ⟨ys,m',em,e_,w,v⟩:=bn Tryz.underlying26 f3;injection e_ with e_;injection e_ with e_;subst e_;injection em with em;subst em;obtain ⟨f1,f2⟩:=v x hx;rw [show cE Tryz.prog 62=true by unfold cE;rw [Tryz.underlying62]]at f2;rw [bZ f2];exact tN (ih n (by omega) _ (.inl f1) (gH (hs.2.2.2.1.2 x hx)))
    ·obtain ⟨ys,m',em,e_,w,v⟩:=bn Tryz.underlying23 f3;injection e_ with e_;injection e_ with e_;subst e_;injection em with em;subst em;obtain ⟨f1,f2⟩:=v x hx;rw [show cE Tryz.prog 245=true by unfold cE;rw [Tryz.underlying245]]at f2;rw [bZ f2];exact tN (ih n (by omega) _ (.inr f1) (gH (hs.2.2.2.1.2 x hx)))
theorem Ga {n:Nat} {xs:List D} (h:Fits Tryz.prog n 26 [.lst xs]) (hs:Sm 1048576 (.lst xs)):∀x∈xs,Tm n x:=by
 cases n with
 | zero=>simp [Fits]at h
 | succ n=>
  obtain ⟨ys,m',em,e_,w,v⟩:=bn Tryz.underlying26 h;injection e_ with e_;injection e_ with e_;subst e_;injection em with em;subst em;simp only [Sm,gj]at hs;intro x hx;obtain ⟨f1,f2⟩:=v x hx;rw [show cE Tryz.prog 62=true by unfold cE;rw [Tryz.underlying62]]at f2;rw [bZ f2];exact tN (C5 ho n _ (.inl f1) (gH (hs.2 x hx)))
theorem Gb {n:Nat} {ds:List D} (h:Fits Tryz.prog n 388 ds) (hs:kO 1048576 ds):Bu (.agg ds)/\∀op N t to,D.agg ds= .agg [.int .i64 op,.int .i64 N,.str t,.int .i64 to]->(t.size:Int)<=1048576:=by
 obtain ⟨c0,c1,c2,c3,e,_⟩:=(sG ho n).2.2.2.2.2.2.2.2 ds h hs;subst e;simp only [kO,Sm]at hs;refine ⟨⟨_,_,_,_,rfl⟩,fun op N t to e=> ?_⟩;injection e with e;simp only [List.cons.injEq,D.int.injEq,D.str.injEq,true_and,and_true]at e;obtain ⟨rfl,rfl,rfl,rfl⟩:=e;omega
theorem IY {n:Nat} {ds:List D} (h:Fits Tryz.prog n 242 ds) (hs:kO 1048576 ds):tH (.agg ds):=by
 obtain ⟨c0,c1,c2,x3,_,e,_⟩:=(sG ho n).2.2.2.2.2.1 ds h hs;subst e;cases n with
 | zero=>simp [Fits]at h
 | succ n=>
  obtain ⟨d0,d1,d2,d3,e2,_,_,_,f3⟩:=tR h;simp only [List.cons.injEq,and_true]at e2;obtain ⟨rfl,rfl,rfl,rfl⟩:=e2;simp only [kO,Sm,gj]at hs;refine ⟨c0,c1,c2,x3,rfl,by omega,by omega,fun y hy=> ?_⟩;obtain ⟨ys,m',em,e_,w,v⟩:=bn Tryz.underlying240 f3;injection e_ with e_;injection e_ with e_;subst e_;subst em;obtain ⟨f1,f2⟩:=v y hy;rw [show cE Tryz.prog 388=true by unfold cE;rw [Tryz.underlying388]]at f2;have hq:=Gb ho f1 (gH (hs.2.2.2.1.2 y hy));rw [<-bZ f2]at hq;exact hq
theorem D1 {n:Nat} {ds:List D} (h:Fits Tryz.prog n 25 ds) (hs:kO 1048576 ds):∃fns ps,ds=[.lst fns,.lst ps]/\jY fns ps:=by
 obtain ⟨x0,_,x1,_,e,_⟩:=(sG ho n).1 ds h hs;subst e;refine ⟨x0,x1,rfl,?_⟩;cases n with
 | zero=>simp [Fits]at h
 | succ n=>
  obtain ⟨d0,d1,e2,f0,f1⟩:=yA h;simp only [List.cons.injEq,and_true]at e2;obtain ⟨rfl,rfl⟩:=e2;simp only [kO,Sm,gj]at hs;obtain ⟨ys,m,em,e_,w,v⟩:=bn Tryz.underlying22 f0;injection e_ with e_;injection e_ with e_;subst e_;obtain ⟨ys,m2,em2,e_,w2,v2⟩:=bn Tryz.underlying23 f1;injection e_ with e_;injection e_ with e_;subst e_;refine ⟨fun x hx=> ?_,by omega,⟨m2,fun x hx=> ?_⟩,by omega⟩
  ·obtain ⟨g1,g2⟩:=v x hx;rw [show cE Tryz.prog 242=true by unfold cE;rw [Tryz.underlying242]]at g2;rw [bZ g2];exact IY ho g1 (gH (hs.1.2 x hx))
  ·obtain ⟨g1,g2⟩:=v2 x hx;rw [show cE Tryz.prog 245=true by unfold cE;rw [Tryz.underlying245]]at g2;rw [bZ g2];exact C5 ho m2 _ (.inr g1) (gH (hs.2.1.2 x hx))
end
end T2
