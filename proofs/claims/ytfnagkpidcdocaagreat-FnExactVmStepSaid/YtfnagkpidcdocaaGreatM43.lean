import Derived.Test.YtfnagkpidcdocaaGreatM13
import Derived.Test.YtfnagkpidcdocaaGreatProg
import Derived.KernelRfl
import Derived.Test.YtfnagkpidcdocaaGreatM16
set_option linter.all false
open Go Go.Vi Go.Proofs
namespace T2
set_option maxRecDepth 100000
set_option maxHeartbeats 4000000
theorem wZ:Tryz.prog.cellsOf 3=1:=by kernel_rfl
theorem Ad:Tryz.prog.cellsOf 9=1:=by kernel_rfl
theorem O6:Tryz.prog.cellsOf 22=1:=by kernel_rfl
theorem NK:Tryz.prog.cellsOf 23=1:=by kernel_rfl
theorem O7:Tryz.prog.cellsOf 25=2:=by kernel_rfl
theorem LF:Tryz.prog.cellsOf 26=1:=by kernel_rfl
theorem vw:Tryz.prog.cellsOf 29=1:=by kernel_rfl
theorem qw:Tryz.prog.cellsOf 31=4:=by kernel_rfl
theorem LG:Tryz.prog.cellsOf 34=1:=by kernel_rfl
theorem DP:Tryz.prog.cellsOf 35=1:=by kernel_rfl
theorem LH:Tryz.prog.cellsOf 37=2:=by kernel_rfl
theorem O8:Tryz.prog.cellsOf 47=1:=by kernel_rfl
theorem O9:Tryz.prog.cellsOf 49=2:=by kernel_rfl
theorem IK:Tryz.prog.cellsOf 51=1:=by kernel_rfl
theorem IL:Tryz.prog.cellsOf 53=2:=by kernel_rfl
theorem O_:Tryz.prog.cellsOf 62=4:=by kernel_rfl
theorem tN:Tryz.prog.cellsOf 192=3:=by kernel_rfl
theorem Fs:Tryz.prog.cellsOf 216=1:=by kernel_rfl
theorem xI:Tryz.prog.cellsOf 224=4:=by kernel_rfl
theorem Ae:Tryz.prog.cellsOf 226=4:=by kernel_rfl
theorem NM:Tryz.prog.cellsOf 240=1:=by kernel_rfl
theorem NN:Tryz.prog.cellsOf 242=4:=by kernel_rfl
theorem NP:Tryz.prog.cellsOf 245=4:=by kernel_rfl
theorem xJ:Tryz.prog.cellsOf 249=4:=by kernel_rfl
theorem NQ:Tryz.prog.cellsOf 259=3:=by kernel_rfl
theorem NR:Tryz.prog.cellsOf 388=4:=by kernel_rfl
theorem vz {n:Nat} {ds:List D} (h:Fits Tryz.prog (n+1) 25 ds):∃c0 c1,ds=[c0,c1]/\Fits Tryz.prog n 22 [c0]/\Fits Tryz.prog n 23 [c1]:=by
 simp only[Fits,Tryz.underlying25]at h;obtain ⟨h1,h2⟩:=h;rw[O7]at h1;obtain ⟨c0,e0,rfl,g0⟩:=aG h1;obtain ⟨c1,e1,rfl,g1⟩:=aG g0;obtain rfl:=List.length_eq_zero_iff.1 g1;simp[O6,NK]at h2;exact ⟨c0,c1,rfl,h2⟩
theorem Ft {n:Nat} {ds:List D} (h:Fits Tryz.prog (n+1) 31 ds):∃c0 c1 c2 c3,ds=[c0,c1,c2,c3]/\Fits Tryz.prog n 3 [c0]/\Fits Tryz.prog n 3 [c1]/\Fits Tryz.prog n 9 [c2]/\Fits Tryz.prog n 29 [c3]:=by
 simp only[Fits,Tryz.underlying31]at h;obtain ⟨h1,h2⟩:=h;rw[qw]at h1;obtain ⟨c0,e0,rfl,g0⟩:=aG h1;obtain ⟨c1,e1,rfl,g1⟩:=aG g0;obtain ⟨c2,e2,rfl,g2⟩:=aG g1;obtain ⟨c3,e3,rfl,g3⟩:=aG g2;obtain rfl:=List.length_eq_zero_iff.1 g3;simp[wZ,Ad,vw]at h2;exact ⟨c0,c1,c2,c3,rfl,h2⟩
theorem Fu {n:Nat} {ds:List D} (h:Own Tryz.prog (n+1) 31 ds):∃c0 c1 c2 c3,ds=[c0,c1,c2,c3]/\Own Tryz.prog n 3 [c0]/\Own Tryz.prog n 3 [c1]/\Own Tryz.prog n 9 [c2]/\Own Tryz.prog n 29 [c3]:=by
 simp only[Own,Tryz.underlying31]at h;obtain ⟨h1,h2⟩:=h;rw[qw]at h1;obtain ⟨c0,e0,rfl,g0⟩:=aG h1;obtain ⟨c1,e1,rfl,g1⟩:=aG g0;obtain ⟨c2,e2,rfl,g2⟩:=aG g1;obtain ⟨c3,e3,rfl,g3⟩:=aG g2;obtain rfl:=List.length_eq_zero_iff.1 g3;simp[wZ,Ad,vw]at h2;exact ⟨c0,c1,c2,c3,rfl,h2⟩
theorem yN {n:Nat} {c0 c1 c2 c3:D} (h:Own Tryz.prog n 3 [c0]/\Own Tryz.prog n 3 [c1]/\Own Tryz.prog n 9 [c2]/\Own Tryz.prog n 29 [c3]):Own Tryz.prog (n+1) 31 [c0,c1,c2,c3]:=by
 refine eH Tryz.underlying31 (by rw[qw];rfl) ?_;simp[wZ,Ad,vw];exact h
theorem Fv {n:Nat} {c0 c1 c2 c3:D} (h:Fits Tryz.prog n 3 [c0]/\Fits Tryz.prog n 3 [c1]/\Fits Tryz.prog n 9 [c2]/\Fits Tryz.prog n 29 [c3]):Fits Tryz.prog (n+1) 31 [c0,c1,c2,c3]:=by
 refine pq Tryz.underlying31 (by rw[qw];rfl) ?_;simp[wZ,Ad,vw];exact h
theorem LI {n:Nat} {ds:List D} (h:Fits Tryz.prog (n+1) 37 ds):∃c0 c1,ds=[c0,c1]/\Fits Tryz.prog n 34 [c0]/\Fits Tryz.prog n 35 [c1]:=by
 simp only[Fits,Tryz.underlying37]at h;obtain ⟨h1,h2⟩:=h;rw[LH]at h1;obtain ⟨c0,e0,rfl,g0⟩:=aG h1;obtain ⟨c1,e1,rfl,g1⟩:=aG g0;obtain rfl:=List.length_eq_zero_iff.1 g1;simp[LG,DP]at h2;exact ⟨c0,c1,rfl,h2⟩
theorem NS {n:Nat} {ds:List D} (h:Own Tryz.prog (n+1) 37 ds):∃c0 c1,ds=[c0,c1]/\Own Tryz.prog n 34 [c0]/\Own Tryz.prog n 35 [c1]:=by
 simp only[Own,Tryz.underlying37]at h;obtain ⟨h1,h2⟩:=h;rw[LH]at h1;obtain ⟨c0,e0,rfl,g0⟩:=aG h1;obtain ⟨c1,e1,rfl,g1⟩:=aG g0;obtain rfl:=List.length_eq_zero_iff.1 g1;simp[LG,DP]at h2;exact ⟨c0,c1,rfl,h2⟩
theorem IQ {n:Nat} {c0 c1:D} (h:Own Tryz.prog n 34 [c0]/\Own Tryz.prog n 35 [c1]):Own Tryz.prog (n+1) 37 [c0,c1]:=by
 refine eH Tryz.underlying37 (by rw[LH];rfl) ?_;simp[LG,DP];exact h
theorem vA {n:Nat} {ds:List D} (h:Fits Tryz.prog (n+1) 49 ds):∃c0 c1,ds=[c0,c1]/\Fits Tryz.prog n 47 [c0]/\Fits Tryz.prog n 26 [c1]:=by
 simp only[Fits,Tryz.underlying49]at h;obtain ⟨h1,h2⟩:=h;rw[O9]at h1;obtain ⟨c0,e0,rfl,g0⟩:=aG h1;obtain ⟨c1,e1,rfl,g1⟩:=aG g0;obtain rfl:=List.length_eq_zero_iff.1 g1;simp[LF,O8]at h2;exact ⟨c0,c1,rfl,h2⟩
theorem LJ {n:Nat} {ds:List D} (h:Fits Tryz.prog (n+1) 53 ds):∃c0 c1,ds=[c0,c1]/\Fits Tryz.prog n 51 [c0]/\Fits Tryz.prog n 29 [c1]:=by
 simp only[Fits,Tryz.underlying53]at h;obtain ⟨h1,h2⟩:=h;rw[IL]at h1;obtain ⟨c0,e0,rfl,g0⟩:=aG h1;obtain ⟨c1,e1,rfl,g1⟩:=aG g0;obtain rfl:=List.length_eq_zero_iff.1 g1;simp[vw,IK]at h2;exact ⟨c0,c1,rfl,h2⟩
theorem Kx {n:Nat} {ds:List D} (h:Own Tryz.prog (n+1) 53 ds):∃c0 c1,ds=[c0,c1]/\Own Tryz.prog n 51 [c0]/\Own Tryz.prog n 29 [c1]:=by
 simp only[Own,Tryz.underlying53]at h;obtain ⟨h1,h2⟩:=h;rw[IL]at h1;obtain ⟨c0,e0,rfl,g0⟩:=aG h1;obtain ⟨c1,e1,rfl,g1⟩:=aG g0;obtain rfl:=List.length_eq_zero_iff.1 g1;simp[vw,IK]at h2;exact ⟨c0,c1,rfl,h2⟩
theorem yO {n:Nat} {c0 c1:D} (h:Own Tryz.prog n 51 [c0]/\Own Tryz.prog n 29 [c1]):Own Tryz.prog (n+1) 53 [c0,c1]:=by
 refine eH Tryz.underlying53 (by rw[IL];rfl) ?_;simp[vw,IK];exact h
theorem Fw {n:Nat} {c0 c1:D} (h:Fits Tryz.prog n 51 [c0]/\Fits Tryz.prog n 29 [c1]):Fits Tryz.prog (n+1) 53 [c0,c1]:=by
 refine pq Tryz.underlying53 (by rw[IL];rfl) ?_;simp[vw,IK];exact h
theorem vB {n:Nat} {ds:List D} (h:Fits Tryz.prog (n+1) 62 ds):∃c0 c1 c2 c3,ds=[c0,c1,c2,c3]/\Fits Tryz.prog n 3 [c0]/\Fits Tryz.prog n 3 [c1]/\Fits Tryz.prog n 9 [c2]/\Fits Tryz.prog n 26 [c3]:=by
 simp only[Fits,Tryz.underlying62]at h;obtain ⟨h1,h2⟩:=h;rw[O_]at h1;obtain ⟨c0,e0,rfl,g0⟩:=aG h1;obtain ⟨c1,e1,rfl,g1⟩:=aG g0;obtain ⟨c2,e2,rfl,g2⟩:=aG g1;obtain ⟨c3,e3,rfl,g3⟩:=aG g2;obtain rfl:=List.length_eq_zero_iff.1 g3;simp[wZ,Ad,LF]at h2;exact ⟨c0,c1,c2,c3,rfl,h2⟩
theorem CR {n:Nat} {ds:List D} (h:Fits Tryz.prog (n+1) 192 ds):∃c0 c1 c2,ds=[c0,c1,c2]/\Fits Tryz.prog n 3 [c0]/\Fits Tryz.prog n 3 [c1]/\Fits Tryz.prog n 29 [c2]:=by
 simp only[Fits,Tryz.underlying192]at h;obtain ⟨h1,h2⟩:=h;rw[tN]at h1;obtain ⟨c0,e0,rfl,g0⟩:=aG h1;obtain ⟨c1,e1,rfl,g1⟩:=aG g0;obtain ⟨c2,e2,rfl,g2⟩:=aG g1;obtain rfl:=List.length_eq_zero_iff.1 g2;simp[wZ,vw]at h2;exact ⟨c0,c1,c2,rfl,h2⟩
theorem Fx {n:Nat} {ds:List D} (h:Own Tryz.prog (n+1) 192 ds):∃c0 c1 c2,ds=[c0,c1,c2]/\Own Tryz.prog n 3 [c0]/\Own Tryz.prog n 3 [c1]/\Own Tryz.prog n 29 [c2]:=by
 simp only[Own,Tryz.underlying192]at h;obtain ⟨h1,h2⟩:=h;rw[tN]at h1;obtain ⟨c0,e0,rfl,g0⟩:=aG h1;obtain ⟨c1,e1,rfl,g1⟩:=aG g0;obtain ⟨c2,e2,rfl,g2⟩:=aG g1;obtain rfl:=List.length_eq_zero_iff.1 g2;simp[wZ,vw]at h2;exact ⟨c0,c1,c2,rfl,h2⟩
theorem Af {n:Nat} {c0 c1 c2:D} (h:Own Tryz.prog n 3 [c0]/\Own Tryz.prog n 3 [c1]/\Own Tryz.prog n 29 [c2]):Own Tryz.prog (n+1) 192 [c0,c1,c2]:=by
 refine eH Tryz.underlying192 (by rw[tN];rfl) ?_;simp[wZ,vw];exact h
theorem CS {n:Nat} {ds:List D} (h:Fits Tryz.prog (n+1) 224 ds):∃c0 c1 c2 c3,ds=[c0,c1,c2,c3]/\Fits Tryz.prog n 3 [c0]/\Fits Tryz.prog n 3 [c1]/\Fits Tryz.prog n 9 [c2]/\Fits Tryz.prog n 3 [c3]:=by
 simp only[Fits,Tryz.underlying224]at h;obtain ⟨h1,h2⟩:=h;rw[xI]at h1;obtain ⟨c0,e0,rfl,g0⟩:=aG h1;obtain ⟨c1,e1,rfl,g1⟩:=aG g0;obtain ⟨c2,e2,rfl,g2⟩:=aG g1;obtain ⟨c3,e3,rfl,g3⟩:=aG g2;obtain rfl:=List.length_eq_zero_iff.1 g3;simp[wZ,Ad]at h2;exact ⟨c0,c1,c2,c3,rfl,h2⟩
theorem LL {n:Nat} {ds:List D} (h:Own Tryz.prog (n+1) 224 ds):∃c0 c1 c2 c3,ds=[c0,c1,c2,c3]/\Own Tryz.prog n 3 [c0]/\Own Tryz.prog n 3 [c1]/\Own Tryz.prog n 9 [c2]/\Own Tryz.prog n 3 [c3]:=by
 simp only[Own,Tryz.underlying224]at h;obtain ⟨h1,h2⟩:=h;rw[xI]at h1;obtain ⟨c0,e0,rfl,g0⟩:=aG h1;obtain ⟨c1,e1,rfl,g1⟩:=aG g0;obtain ⟨c2,e2,rfl,g2⟩:=aG g1;obtain ⟨c3,e3,rfl,g3⟩:=aG g2;obtain rfl:=List.length_eq_zero_iff.1 g3;simp[wZ,Ad]at h2;exact ⟨c0,c1,c2,c3,rfl,h2⟩
theorem Fy {n:Nat} {c0 c1 c2 c3:D} (h:Own Tryz.prog n 3 [c0]/\Own Tryz.prog n 3 [c1]/\Own Tryz.prog n 9 [c2]/\Own Tryz.prog n 3 [c3]):Own Tryz.prog (n+1) 224 [c0,c1,c2,c3]:=by
 refine eH Tryz.underlying224 (by rw[xI];rfl) ?_;simp[wZ,Ad];exact h
theorem CT {n:Nat} {ds:List D} (h:Fits Tryz.prog (n+1) 226 ds):∃c0 c1 c2 c3,ds=[c0,c1,c2,c3]/\Fits Tryz.prog n 9 [c0]/\Fits Tryz.prog n 3 [c1]/\Fits Tryz.prog n 3 [c2]/\Fits Tryz.prog n 216 [c3]:=by
 simp only[Fits,Tryz.underlying226]at h;obtain ⟨h1,h2⟩:=h;rw[Ae]at h1;obtain ⟨c0,e0,rfl,g0⟩:=aG h1;obtain ⟨c1,e1,rfl,g1⟩:=aG g0;obtain ⟨c2,e2,rfl,g2⟩:=aG g1;obtain ⟨c3,e3,rfl,g3⟩:=aG g2;obtain rfl:=List.length_eq_zero_iff.1 g3;simp[wZ,Ad,Fs]at h2;exact ⟨c0,c1,c2,c3,rfl,h2⟩
theorem LM {n:Nat} {ds:List D} (h:Own Tryz.prog (n+1) 226 ds):∃c0 c1 c2 c3,ds=[c0,c1,c2,c3]/\Own Tryz.prog n 9 [c0]/\Own Tryz.prog n 3 [c1]/\Own Tryz.prog n 3 [c2]/\Own Tryz.prog n 216 [c3]:=by
 simp only[Own,Tryz.underlying226]at h;obtain ⟨h1,h2⟩:=h;rw[Ae]at h1;obtain ⟨c0,e0,rfl,g0⟩:=aG h1;obtain ⟨c1,e1,rfl,g1⟩:=aG g0;obtain ⟨c2,e2,rfl,g2⟩:=aG g1;obtain ⟨c3,e3,rfl,g3⟩:=aG g2;obtain rfl:=List.length_eq_zero_iff.1 g3;simp[wZ,Ad,Fs]at h2;exact ⟨c0,c1,c2,c3,rfl,h2⟩
theorem Fz {n:Nat} {c0 c1 c2 c3:D} (h:Own Tryz.prog n 9 [c0]/\Own Tryz.prog n 3 [c1]/\Own Tryz.prog n 3 [c2]/\Own Tryz.prog n 216 [c3]):Own Tryz.prog (n+1) 226 [c0,c1,c2,c3]:=by
 refine eH Tryz.underlying226 (by rw[Ae];rfl) ?_;simp[wZ,Ad,Fs];exact h
theorem rz {n:Nat} {ds:List D} (h:Fits Tryz.prog (n+1) 242 ds):∃c0 c1 c2 c3,ds=[c0,c1,c2,c3]/\Fits Tryz.prog n 9 [c0]/\Fits Tryz.prog n 3 [c1]/\Fits Tryz.prog n 3 [c2]/\Fits Tryz.prog n 240 [c3]:=by
 simp only[Fits,Tryz.underlying242]at h;obtain ⟨h1,h2⟩:=h;rw[NN]at h1;obtain ⟨c0,e0,rfl,g0⟩:=aG h1;obtain ⟨c1,e1,rfl,g1⟩:=aG g0;obtain ⟨c2,e2,rfl,g2⟩:=aG g1;obtain ⟨c3,e3,rfl,g3⟩:=aG g2;obtain rfl:=List.length_eq_zero_iff.1 g3;simp[wZ,Ad,NM]at h2;exact ⟨c0,c1,c2,c3,rfl,h2⟩
theorem rC {n:Nat} {ds:List D} (h:Fits Tryz.prog (n+1) 245 ds):∃c0 c1 c2 c3,ds=[c0,c1,c2,c3]/\Fits Tryz.prog n 3 [c0]/\Fits Tryz.prog n 3 [c1]/\Fits Tryz.prog n 9 [c2]/\Fits Tryz.prog n 23 [c3]:=by
 simp only[Fits,Tryz.underlying245]at h;obtain ⟨h1,h2⟩:=h;rw[NP]at h1;obtain ⟨c0,e0,rfl,g0⟩:=aG h1;obtain ⟨c1,e1,rfl,g1⟩:=aG g0;obtain ⟨c2,e2,rfl,g2⟩:=aG g1;obtain ⟨c3,e3,rfl,g3⟩:=aG g2;obtain rfl:=List.length_eq_zero_iff.1 g3;simp[wZ,Ad,NK]at h2;exact ⟨c0,c1,c2,c3,rfl,h2⟩
theorem CU {n:Nat} {ds:List D} (h:Fits Tryz.prog (n+1) 249 ds):∃c0 c1 c2 c3,ds=[c0,c1,c2,c3]/\Fits Tryz.prog n 3 [c0]/\Fits Tryz.prog n 3 [c1]/\Fits Tryz.prog n 9 [c2]/\Fits Tryz.prog n 35 [c3]:=by
 simp only[Fits,Tryz.underlying249]at h;obtain ⟨h1,h2⟩:=h;rw[xJ]at h1;obtain ⟨c0,e0,rfl,g0⟩:=aG h1;obtain ⟨c1,e1,rfl,g1⟩:=aG g0;obtain ⟨c2,e2,rfl,g2⟩:=aG g1;obtain ⟨c3,e3,rfl,g3⟩:=aG g2;obtain rfl:=List.length_eq_zero_iff.1 g3;simp[wZ,Ad,DP]at h2;exact ⟨c0,c1,c2,c3,rfl,h2⟩
theorem LN {n:Nat} {ds:List D} (h:Own Tryz.prog (n+1) 249 ds):∃c0 c1 c2 c3,ds=[c0,c1,c2,c3]/\Own Tryz.prog n 3 [c0]/\Own Tryz.prog n 3 [c1]/\Own Tryz.prog n 9 [c2]/\Own Tryz.prog n 35 [c3]:=by
 simp only[Own,Tryz.underlying249]at h;obtain ⟨h1,h2⟩:=h;rw[xJ]at h1;obtain ⟨c0,e0,rfl,g0⟩:=aG h1;obtain ⟨c1,e1,rfl,g1⟩:=aG g0;obtain ⟨c2,e2,rfl,g2⟩:=aG g1;obtain ⟨c3,e3,rfl,g3⟩:=aG g2;obtain rfl:=List.length_eq_zero_iff.1 g3;simp[wZ,Ad,DP]at h2;exact ⟨c0,c1,c2,c3,rfl,h2⟩
theorem FA {n:Nat} {c0 c1 c2 c3:D} (h:Own Tryz.prog n 3 [c0]/\Own Tryz.prog n 3 [c1]/\Own Tryz.prog n 9 [c2]/\Own Tryz.prog n 35 [c3]):Own Tryz.prog (n+1) 249 [c0,c1,c2,c3]:=by
 refine eH Tryz.underlying249 (by rw[xJ];rfl) ?_;simp[wZ,Ad,DP];exact h
theorem rD {n:Nat} {ds:List D} (h:Fits Tryz.prog (n+1) 259 ds):∃c0 c1 c2,ds=[c0,c1,c2]/\Fits Tryz.prog n 3 [c0]/\Fits Tryz.prog n 3 [c1]/\Fits Tryz.prog n 26 [c2]:=by
 simp only[Fits,Tryz.underlying259]at h;obtain ⟨h1,h2⟩:=h;rw[NQ]at h1;obtain ⟨c0,e0,rfl,g0⟩:=aG h1;obtain ⟨c1,e1,rfl,g1⟩:=aG g0;obtain ⟨c2,e2,rfl,g2⟩:=aG g1;obtain rfl:=List.length_eq_zero_iff.1 g2;simp[wZ,LF]at h2;exact ⟨c0,c1,c2,rfl,h2⟩
theorem uJ {n:Nat} {ds:List D} (h:Fits Tryz.prog (n+1) 388 ds):∃c0 c1 c2 c3,ds=[c0,c1,c2,c3]/\Fits Tryz.prog n 3 [c0]/\Fits Tryz.prog n 3 [c1]/\Fits Tryz.prog n 9 [c2]/\Fits Tryz.prog n 3 [c3]:=by
 simp only[Fits,Tryz.underlying388]at h;obtain ⟨h1,h2⟩:=h;rw[NR]at h1;obtain ⟨c0,e0,rfl,g0⟩:=aG h1;obtain ⟨c1,e1,rfl,g1⟩:=aG g0;obtain ⟨c2,e2,rfl,g2⟩:=aG g1;obtain ⟨c3,e3,rfl,g3⟩:=aG g2;obtain rfl:=List.length_eq_zero_iff.1 g3;simp[wZ,Ad]at h2;exact ⟨c0,c1,c2,c3,rfl,h2⟩
end T2
open Go Go.Vi Go.Proofs
namespace T2
set_option maxRecDepth 100000
set_option maxHeartbeats 4000000
variable {o:aJ} (ho:aR cF bB o)
def FE (o:aJ) (n:Nat):Prop:=∀ds,Fits Tryz.prog n 31 ds->o.call 20 [.agg (ds.map .d),.agg (ds.map .d)] []=some ⟨.d (.bool true),[],[]⟩
def FG (o:aJ) (n:Nat):Prop:=∀ds,Fits Tryz.prog n 37 ds->o.call 21 [.agg (ds.map .d),.agg (ds.map .d)] []=some ⟨.d (.bool true),[],[]⟩
def CX (o:aJ) (n:Nat):Prop:=∀xs,Fits Tryz.prog n 29 [.lst xs]->o.call 22 [.d (.lst xs),.d (.lst xs)] []=some ⟨.d (.bool true),[],[]⟩
def NU (o:aJ) (n:Nat):Prop:=∀ds,Fits Tryz.prog n 53 ds->o.call 31 [.agg (ds.map .d),.agg (ds.map .d)] []=some ⟨.d (.bool true),[],[]⟩
def KA (o:aJ) (n:Nat):Prop:=∀xs,Fits Tryz.prog n 34 [.lst xs]->o.call 92 [.d (.lst xs),.d (.lst xs)] []=some ⟨.d (.bool true),[],[]⟩
def FH (o:aJ) (n:Nat):Prop:=∀xs,Fits Tryz.prog n 35 [.lst xs]->o.call 93 [.d (.lst xs),.d (.lst xs)] []=some ⟨.d (.bool true),[],[]⟩
def Ag (o:aJ) (n:Nat):Prop:=∀xs,Fits Tryz.prog n 51 [.lst xs]->o.call 106 [.d (.lst xs),.d (.lst xs)] []=some ⟨.d (.bool true),[],[]⟩
def NV (o:aJ) (n:Nat):Prop:=∀ds,Fits Tryz.prog n 226 ds->o.call 182 [.agg (ds.map .d),.agg (ds.map .d)] []=some ⟨.d (.bool true),[],[]⟩
def KC (o:aJ) (n:Nat):Prop:=∀ds,Fits Tryz.prog n 249 ds->o.call 183 [.agg (ds.map .d),.agg (ds.map .d)] []=some ⟨.d (.bool true),[],[]⟩
def CY (o:aJ) (n:Nat):Prop:=∀ds,Fits Tryz.prog n 192 ds->o.call 201 [.agg (ds.map .d),.agg (ds.map .d)] []=some ⟨.d (.bool true),[],[]⟩
def FI (o:aJ) (n:Nat):Prop:=∀xs,Fits Tryz.prog n 216 [.lst xs]->o.call 280 [.d (.lst xs),.d (.lst xs)] []=some ⟨.d (.bool true),[],[]⟩
def KD (o:aJ) (n:Nat):Prop:=∀ds,Fits Tryz.prog n 224 ds->o.call 345 [.agg (ds.map .d),.agg (ds.map .d)] []=some ⟨.d (.bool true),[],[]⟩
def lF (o:aJ) (n:Nat):Prop:=FE o n/\FG o n/\CX o n/\NU o n/\KA o n/\FH o n/\Ag o n/\NV o n/\KC o n/\CY o n/\FI o n/\KD o n
include ho
theorem eq_int (a:Int):o.cmp .neq a a=false:=by rw[ho.cmp];simp[qJ]
theorem ni (s:ByteArray):o.gM .neq s s=false:=by rw[ho.gM];simp[uh]
theorem rE (a:Int):o.cmp .lss a a=false:=by rw[ho.cmp];simp[qJ]
theorem nj {a b:Int} (h:a<b):o.cmp .lss a b=true:=by rw[ho.cmp];simp[qJ,h]
theorem inc {a b:Int} (h0:0<=a) (h:a<b) (hb:b<=9223372036854775807):o.ar .add .i64 a 1=a+1:=by rw[ho.ar];simp only[Ei];exact uS (by omega) (by omega)
theorem dA (xs:List D) (k:Int) (x:D) (h0:0<=k) (h:xs[k.toNat]? =some x):o.dD xs k=some x:=by rw[ho.dD];simp[zE,h,h0]
theorem LP {n:Nat} (ih:lF o n):FE o (n+1):=by
 intro ds h;have q:=h;obtain ⟨ac0,ac1,ac2,ac3,rfl,ah0,ah1,ah2,ah3⟩:=Ft h;obtain ⟨x0,e_,w0⟩:=fits_int Tryz.underlying3 ah0;injection e_ with e_;subst e_;obtain ⟨x1,e_,w1⟩:=fits_int Tryz.underlying3 ah1;injection e_ with e_;subst e_;obtain ⟨x2,e_,w2⟩:=fJ Tryz.underlying9 ah2;injection e_ with e_;subst e_;have k3:=ah3;obtain ⟨x3,m3,em3,e_,w3,v3⟩:=aS Tryz.underlying29 ah3;injection e_ with e_;subst e_;have q3:=(ih.2.2.1) x3 k3;refine ho.au ?_
 cbv
 repeat ((first | rw[eq_int ho] | rw[ni ho] | rw[q3]);(try cbv))
theorem LQ {n:Nat} (ih:lF o n):FG o (n+1):=by
 intro ds h;have q:=h;obtain ⟨ac0,ac1,rfl,ah0,ah1⟩:=LI h;have k0:=ah0;obtain ⟨x0,m0,em0,e_,w0,v0⟩:=aS Tryz.underlying34 ah0;injection e_ with e_;subst e_;have q0:=(ih.2.2.2.2.1) x0 k0;have k1:=ah1;obtain ⟨x1,m1,em1,e_,w1,v1⟩:=aS Tryz.underlying35 ah1;injection e_ with e_;subst e_;have q1:=(ih.2.2.2.2.2.1) x1 k1;refine ho.au ?_
 cbv
 repeat ((first | rw[eq_int ho] | rw[ni ho] | rw[q0] | rw[q1]);(try cbv))
theorem rF (xs:List D) (n:Int) (hn:o.len xs=n) (hm:n<=9223372036854775807) (hx:∀x∈xs,∃c0 c1 c2 c3,x= .agg [c0,c1,c2,c3]/\o.call 20 [.agg [.d c0,.d c1,.d c2,.d c3],.agg [.d c0,.d c1,.d c2,.d c3]] []=Ar (Ab true)):∀(m:Nat) (k:Int),0<=k->k+m=n->(o.loop 2200 ⟨Al xs::Al xs::U::U::U::Ai k::G8,uz⟩=some (.exit 0,⟨OA,uz⟩))
 | 0,k,h0,h=>by
  have hk:k=n:=by omega
  subst hk;have h2:=rE ho k;refine ho.aB ?_
  cbv
  repeat ((first | rw[hn] | rw[h2]);(try cbv))
 | m+1,k,h0,h=>by
  have hl:(xs.length:Int)=n:=by rw[<-hn,ho.len]
  have hk:k.toNat<xs.length:=by omega
  obtain ⟨x,hxk⟩:∃x,xs[k.toNat]? =some x:=⟨_,bg hk⟩
  obtain ⟨c0,c1,c2,c3,rfl,hc⟩:=hx x (List.mem_of_getElem? hxk);have ih:=rF xs n hn hm hx m (k+1) (by omega) (by omega);have h2:=nj ho (show k<n by omega);have h3:o.dD xs k=some (.agg [c0,c1,c2,c3]):=dA ho xs k _ h0 hxk;have h4:=inc ho h0 (show k<n by omega) hm;refine ho.aB ?_
  cbv
  repeat ((first | rw[hn] | rw[h2] | rw[h3] | rw[hc] | rw[h4] | exact ih);(try cbv))
theorem IX {n:Nat} (ih:lF o n):CX o (n+1):=by
 intro xs h;obtain ⟨ys,m,em,e_,w,v⟩:=aS Tryz.underlying29 h;injection e_ with e_;injection e_ with e_;subst e_;injection em with em;subst em;have hm:((xs.length:Nat):Int)<=9223372036854775807:=by unfold maxLen at w;omega
 have hx:∀x∈xs,∃c0 c1 c2 c3,x= .agg [c0,c1,c2,c3]/\o.call 20 [.agg [.d c0,.d c1,.d c2,.d c3],.agg [.d c0,.d c1,.d c2,.d c3]] []=Ar (Ab true):=by
  intro x hx;obtain ⟨f1,f2⟩:=v x hx;rw[show bY Tryz.prog 31=true by unfold bY;rw[Tryz.underlying31]]at f2;cases n with
  | zero=>simp[Fits]at f1
  | succ n=>
   obtain ⟨c0,c1,c2,c3,e1,_⟩:=Ft f1;have q:=(ih.1) _ f1;rw[e1]at q;exact ⟨c0,c1,c2,c3,by rw[cT f2,e1],q⟩
 have hn:o.len xs=((xs.length:Nat):Int):=ho.len xs;generalize hN:((xs.length:Nat):Int)=N at hn hm;have h1:=rF ho xs N hn hm hx xs.length 0 (Int.le_refl _) (by omega);have h2:=eq_int ho N;refine ho.au ?_
 cbv
 repeat ((first | rw[hn] | rw[h2] | rw[h1]);(try cbv))
theorem Pa {n:Nat} (ih:lF o n):NU o (n+1):=by
 intro ds h;have q:=h;obtain ⟨ac0,ac1,rfl,ah0,ah1⟩:=LJ h;have k0:=ah0;obtain ⟨x0,m0,em0,e_,w0,v0⟩:=aS Tryz.underlying51 ah0;injection e_ with e_;subst e_;have q0:=(ih.2.2.2.2.2.2.1) x0 k0;have k1:=ah1;obtain ⟨x1,m1,em1,e_,w1,v1⟩:=aS Tryz.underlying29 ah1;injection e_ with e_;subst e_;have q1:=(ih.2.2.1) x1 k1;refine ho.au ?_
 cbv
 repeat ((first | rw[eq_int ho] | rw[ni ho] | rw[q0] | rw[q1]);(try cbv))
theorem vC (xs:List D) (n:Int) (hn:o.len xs=n) (hm:n<=9223372036854775807) (hx:∀x∈xs,∃c0 c1 c2 c3,x= .agg [c0,c1,c2,c3]/\o.call 182 [.agg [.d c0,.d c1,.d c2,.d c3],.agg [.d c0,.d c1,.d c2,.d c3]] []=Ar (Ab true)):∀(m:Nat) (k:Int),0<=k->k+m=n->(o.loop 9200 ⟨Al xs::Al xs::U::U::U::Ai k::G8,uz⟩=some (.exit 0,⟨OA,uz⟩))
 | 0,k,h0,h=>by
  have hk:k=n:=by omega
  subst hk;have h2:=rE ho k;refine ho.aB ?_
  cbv
  repeat ((first | rw[hn] | rw[h2]);(try cbv))
 | m+1,k,h0,h=>by
  have hl:(xs.length:Int)=n:=by rw[<-hn,ho.len]
  have hk:k.toNat<xs.length:=by omega
  obtain ⟨x,hxk⟩:∃x,xs[k.toNat]? =some x:=⟨_,bg hk⟩
  obtain ⟨c0,c1,c2,c3,rfl,hc⟩:=hx x (List.mem_of_getElem? hxk);have ih:=vC xs n hn hm hx m (k+1) (by omega) (by omega);have h2:=nj ho (show k<n by omega);have h3:o.dD xs k=some (.agg [c0,c1,c2,c3]):=dA ho xs k _ h0 hxk;have h4:=inc ho h0 (show k<n by omega) hm;refine ho.aB ?_
  cbv
  repeat ((first | rw[hn] | rw[h2] | rw[h3] | rw[hc] | rw[h4] | exact ih);(try cbv))
theorem NW {n:Nat} (ih:lF o n):KA o (n+1):=by
 intro xs h;obtain ⟨ys,m,em,e_,w,v⟩:=aS Tryz.underlying34 h;injection e_ with e_;injection e_ with e_;subst e_;injection em with em;subst em;have hm:((xs.length:Nat):Int)<=9223372036854775807:=by unfold maxLen at w;omega
 have hx:∀x∈xs,∃c0 c1 c2 c3,x= .agg [c0,c1,c2,c3]/\o.call 182 [.agg [.d c0,.d c1,.d c2,.d c3],.agg [.d c0,.d c1,.d c2,.d c3]] []=Ar (Ab true):=by
  intro x hx;obtain ⟨f1,f2⟩:=v x hx;rw[show bY Tryz.prog 226=true by unfold bY;rw[Tryz.underlying226]]at f2;cases n with
  | zero=>simp[Fits]at f1
  | succ n=>
   obtain ⟨c0,c1,c2,c3,e1,_⟩:=CT f1;have q:=(ih.2.2.2.2.2.2.2.1) _ f1;rw[e1]at q;exact ⟨c0,c1,c2,c3,by rw[cT f2,e1],q⟩
 have hn:o.len xs=((xs.length:Nat):Int):=ho.len xs;generalize hN:((xs.length:Nat):Int)=N at hn hm;have h1:=vC ho xs N hn hm hx xs.length 0 (Int.le_refl _) (by omega);have h2:=eq_int ho N;refine ho.au ?_
 cbv
 repeat ((first | rw[hn] | rw[h2] | rw[h1]);(try cbv))
theorem tO (xs:List D) (n:Int) (hn:o.len xs=n) (hm:n<=9223372036854775807) (hx:∀x∈xs,∃c0 c1 c2 c3,x= .agg [c0,c1,c2,c3]/\o.call 183 [.agg [.d c0,.d c1,.d c2,.d c3],.agg [.d c0,.d c1,.d c2,.d c3]] []=Ar (Ab true)):∀(m:Nat) (k:Int),0<=k->k+m=n->(o.loop 9300 ⟨Al xs::Al xs::U::U::U::Ai k::G8,uz⟩=some (.exit 0,⟨OA,uz⟩))
 | 0,k,h0,h=>by
  have hk:k=n:=by omega
  subst hk;have h2:=rE ho k;refine ho.aB ?_
  cbv
  repeat ((first | rw[hn] | rw[h2]);(try cbv))
 | m+1,k,h0,h=>by
  have hl:(xs.length:Int)=n:=by rw[<-hn,ho.len]
  have hk:k.toNat<xs.length:=by omega
  obtain ⟨x,hxk⟩:∃x,xs[k.toNat]? =some x:=⟨_,bg hk⟩
  obtain ⟨c0,c1,c2,c3,rfl,hc⟩:=hx x (List.mem_of_getElem? hxk);have ih:=tO xs n hn hm hx m (k+1) (by omega) (by omega);have h2:=nj ho (show k<n by omega);have h3:o.dD xs k=some (.agg [c0,c1,c2,c3]):=dA ho xs k _ h0 hxk;have h4:=inc ho h0 (show k<n by omega) hm;refine ho.aB ?_
  cbv
  repeat ((first | rw[hn] | rw[h2] | rw[h3] | rw[hc] | rw[h4] | exact ih);(try cbv))
theorem LR {n:Nat} (ih:lF o n):FH o (n+1):=by
 intro xs h;obtain ⟨ys,m,em,e_,w,v⟩:=aS Tryz.underlying35 h;injection e_ with e_;injection e_ with e_;subst e_;injection em with em;subst em;have hm:((xs.length:Nat):Int)<=9223372036854775807:=by unfold maxLen at w;omega
 have hx:∀x∈xs,∃c0 c1 c2 c3,x= .agg [c0,c1,c2,c3]/\o.call 183 [.agg [.d c0,.d c1,.d c2,.d c3],.agg [.d c0,.d c1,.d c2,.d c3]] []=Ar (Ab true):=by
  intro x hx;obtain ⟨f1,f2⟩:=v x hx;rw[show bY Tryz.prog 249=true by unfold bY;rw[Tryz.underlying249]]at f2;cases n with
  | zero=>simp[Fits]at f1
  | succ n=>
   obtain ⟨c0,c1,c2,c3,e1,_⟩:=CU f1;have q:=(ih.2.2.2.2.2.2.2.2.1) _ f1;rw[e1]at q;exact ⟨c0,c1,c2,c3,by rw[cT f2,e1],q⟩
 have hn:o.len xs=((xs.length:Nat):Int):=ho.len xs;generalize hN:((xs.length:Nat):Int)=N at hn hm;have h1:=tO ho xs N hn hm hx xs.length 0 (Int.le_refl _) (by omega);have h2:=eq_int ho N;refine ho.au ?_
 cbv
 repeat ((first | rw[hn] | rw[h2] | rw[h1]);(try cbv))
theorem qg (xs:List D) (n:Int) (hn:o.len xs=n) (hm:n<=9223372036854775807) (hx:∀x∈xs,∃c0 c1 c2,x= .agg [c0,c1,c2]/\o.call 201 [.agg [.d c0,.d c1,.d c2],.agg [.d c0,.d c1,.d c2]] []=Ar (Ab true)):∀(m:Nat) (k:Int),0<=k->k+m=n->(o.loop 10600 ⟨Al xs::Al xs::U::U::U::Ai k::G8,uz⟩=some (.exit 0,⟨OA,uz⟩))
 | 0,k,h0,h=>by
  have hk:k=n:=by omega
  subst hk;have h2:=rE ho k;refine ho.aB ?_
  cbv
  repeat ((first | rw[hn] | rw[h2]);(try cbv))
 | m+1,k,h0,h=>by
  have hl:(xs.length:Int)=n:=by rw[<-hn,ho.len]
  have hk:k.toNat<xs.length:=by omega
  obtain ⟨x,hxk⟩:∃x,xs[k.toNat]? =some x:=⟨_,bg hk⟩
  obtain ⟨c0,c1,c2,rfl,hc⟩:=hx x (List.mem_of_getElem? hxk);have ih:=qg xs n hn hm hx m (k+1) (by omega) (by omega);have h2:=nj ho (show k<n by omega);have h3:o.dD xs k=some (.agg [c0,c1,c2]):=dA ho xs k _ h0 hxk;have h4:=inc ho h0 (show k<n by omega) hm;refine ho.aB ?_
  cbv
  repeat ((first | rw[hn] | rw[h2] | rw[h3] | rw[hc] | rw[h4] | exact ih);(try cbv))
theorem FJ {n:Nat} (ih:lF o n):Ag o (n+1):=by
 intro xs h;obtain ⟨ys,m,em,e_,w,v⟩:=aS Tryz.underlying51 h;injection e_ with e_;injection e_ with e_;subst e_;injection em with em;subst em;have hm:((xs.length:Nat):Int)<=9223372036854775807:=by unfold maxLen at w;omega
 have hx:∀x∈xs,∃c0 c1 c2,x= .agg [c0,c1,c2]/\o.call 201 [.agg [.d c0,.d c1,.d c2],.agg [.d c0,.d c1,.d c2]] []=Ar (Ab true):=by
  intro x hx;obtain ⟨f1,f2⟩:=v x hx;rw[show bY Tryz.prog 192=true by unfold bY;rw[Tryz.underlying192]]at f2;cases n with
  | zero=>simp[Fits]at f1
  | succ n=>
   obtain ⟨c0,c1,c2,e1,_⟩:=CR f1;have q:=(ih.2.2.2.2.2.2.2.2.2.1) _ f1;rw[e1]at q;exact ⟨c0,c1,c2,by rw[cT f2,e1],q⟩
 have hn:o.len xs=((xs.length:Nat):Int):=ho.len xs;generalize hN:((xs.length:Nat):Int)=N at hn hm;have h1:=qg ho xs N hn hm hx xs.length 0 (Int.le_refl _) (by omega);have h2:=eq_int ho N;refine ho.au ?_
 cbv
 repeat ((first | rw[hn] | rw[h2] | rw[h1]);(try cbv))
theorem Pb {n:Nat} (ih:lF o n):NV o (n+1):=by
 intro ds h;have q:=h;obtain ⟨ac0,ac1,ac2,ac3,rfl,ah0,ah1,ah2,ah3⟩:=CT h;obtain ⟨x0,e_,w0⟩:=fJ Tryz.underlying9 ah0;injection e_ with e_;subst e_;obtain ⟨x1,e_,w1⟩:=fits_int Tryz.underlying3 ah1;injection e_ with e_;subst e_;obtain ⟨x2,e_,w2⟩:=fits_int Tryz.underlying3 ah2;injection e_ with e_;subst e_;have k3:=ah3;obtain ⟨x3,m3,em3,e_,w3,v3⟩:=aS Tryz.underlying216 ah3;injection e_ with e_;subst e_;have q3:=(ih.2.2.2.2.2.2.2.2.2.2.1) x3 k3;refine ho.au ?_
 cbv
 repeat ((first | rw[eq_int ho] | rw[ni ho] | rw[q3]);(try cbv))
theorem NX {n:Nat} (ih:lF o n):KC o (n+1):=by
 intro ds h;have q:=h;obtain ⟨ac0,ac1,ac2,ac3,rfl,ah0,ah1,ah2,ah3⟩:=CU h;obtain ⟨x0,e_,w0⟩:=fits_int Tryz.underlying3 ah0;injection e_ with e_;subst e_;obtain ⟨x1,e_,w1⟩:=fits_int Tryz.underlying3 ah1;injection e_ with e_;subst e_;obtain ⟨x2,e_,w2⟩:=fJ Tryz.underlying9 ah2;injection e_ with e_;subst e_;have k3:=ah3;obtain ⟨x3,m3,em3,e_,w3,v3⟩:=aS Tryz.underlying35 ah3;injection e_ with e_;subst e_;have q3:=(ih.2.2.2.2.2.1) x3 k3;refine ho.au ?_
 cbv
 repeat ((first | rw[eq_int ho] | rw[ni ho] | rw[q3]);(try cbv))
theorem IY {n:Nat} (ih:lF o n):CY o (n+1):=by
 intro ds h;have q:=h;obtain ⟨ac0,ac1,ac2,rfl,ah0,ah1,ah2⟩:=CR h;obtain ⟨x0,e_,w0⟩:=fits_int Tryz.underlying3 ah0;injection e_ with e_;subst e_;obtain ⟨x1,e_,w1⟩:=fits_int Tryz.underlying3 ah1;injection e_ with e_;subst e_;have k2:=ah2;obtain ⟨x2,m2,em2,e_,w2,v2⟩:=aS Tryz.underlying29 ah2;injection e_ with e_;subst e_;have q2:=(ih.2.2.1) x2 k2;refine ho.au ?_
 cbv
 repeat ((first | rw[eq_int ho] | rw[ni ho] | rw[q2]);(try cbv))
theorem tP (xs:List D) (n:Int) (hn:o.len xs=n) (hm:n<=9223372036854775807) (hx:∀x∈xs,∃c0 c1 c2 c3,x= .agg [c0,c1,c2,c3]/\o.call 345 [.agg [.d c0,.d c1,.d c2,.d c3],.agg [.d c0,.d c1,.d c2,.d c3]] []=Ar (Ab true)):∀(m:Nat) (k:Int),0<=k->k+m=n->(o.loop 28000 ⟨Al xs::Al xs::U::U::U::Ai k::G8,uz⟩=some (.exit 0,⟨OA,uz⟩))
 | 0,k,h0,h=>by
  have hk:k=n:=by omega
  subst hk;have h2:=rE ho k;refine ho.aB ?_
  cbv
  repeat ((first | rw[hn] | rw[h2]);(try cbv))
 | m+1,k,h0,h=>by
  have hl:(xs.length:Int)=n:=by rw[<-hn,ho.len]
  have hk:k.toNat<xs.length:=by omega
  obtain ⟨x,hxk⟩:∃x,xs[k.toNat]? =some x:=⟨_,bg hk⟩
  obtain ⟨c0,c1,c2,c3,rfl,hc⟩:=hx x (List.mem_of_getElem? hxk);have ih:=tP xs n hn hm hx m (k+1) (by omega) (by omega);have h2:=nj ho (show k<n by omega);have h3:o.dD xs k=some (.agg [c0,c1,c2,c3]):=dA ho xs k _ h0 hxk;have h4:=inc ho h0 (show k<n by omega) hm;refine ho.aB ?_
  cbv
  repeat ((first | rw[hn] | rw[h2] | rw[h3] | rw[hc] | rw[h4] | exact ih);(try cbv))
theorem LS {n:Nat} (ih:lF o n):FI o (n+1):=by
 intro xs h;obtain ⟨ys,m,em,e_,w,v⟩:=aS Tryz.underlying216 h;injection e_ with e_;injection e_ with e_;subst e_;injection em with em;subst em;have hm:((xs.length:Nat):Int)<=9223372036854775807:=by unfold maxLen at w;omega
 have hx:∀x∈xs,∃c0 c1 c2 c3,x= .agg [c0,c1,c2,c3]/\o.call 345 [.agg [.d c0,.d c1,.d c2,.d c3],.agg [.d c0,.d c1,.d c2,.d c3]] []=Ar (Ab true):=by
  intro x hx;obtain ⟨f1,f2⟩:=v x hx;rw[show bY Tryz.prog 224=true by unfold bY;rw[Tryz.underlying224]]at f2;cases n with
  | zero=>simp[Fits]at f1
  | succ n=>
   obtain ⟨c0,c1,c2,c3,e1,_⟩:=CS f1;have q:=(ih.2.2.2.2.2.2.2.2.2.2.2) _ f1;rw[e1]at q;exact ⟨c0,c1,c2,c3,by rw[cT f2,e1],q⟩
 have hn:o.len xs=((xs.length:Nat):Int):=ho.len xs;generalize hN:((xs.length:Nat):Int)=N at hn hm;have h1:=tP ho xs N hn hm hx xs.length 0 (Int.le_refl _) (by omega);have h2:=eq_int ho N;refine ho.au ?_
 cbv
 repeat ((first | rw[hn] | rw[h2] | rw[h1]);(try cbv))
theorem NY {n:Nat} (ih:lF o n):KD o (n+1):=by
 intro ds h;have q:=h;obtain ⟨ac0,ac1,ac2,ac3,rfl,ah0,ah1,ah2,ah3⟩:=CS h;obtain ⟨x0,e_,w0⟩:=fits_int Tryz.underlying3 ah0;injection e_ with e_;subst e_;obtain ⟨x1,e_,w1⟩:=fits_int Tryz.underlying3 ah1;injection e_ with e_;subst e_;obtain ⟨x2,e_,w2⟩:=fJ Tryz.underlying9 ah2;injection e_ with e_;subst e_;obtain ⟨x3,e_,w3⟩:=fits_int Tryz.underlying3 ah3;injection e_ with e_;subst e_;refine ho.au ?_
 cbv
 repeat ((first | rw[eq_int ho] | rw[ni ho]);(try cbv))
theorem vD:∀n,lF o n
 | 0=>by
  unfold lF;refine ⟨?_,?_,?_,?_,?_,?_,?_,?_,?_,?_,?_,?_⟩<;>(intro x h;simp[Fits]at h)
 | n+1=>have ih:=vD n;⟨LP ho ih,LQ ho ih,IX ho ih,Pa ho ih,NW ho ih,LR ho ih,FJ ho ih,Pb ho ih,NX ho ih,IY ho ih,LS ho ih,NY ho ih⟩
end T2
open Go Go.Vi Go.Proofs
namespace T2
set_option maxRecDepth 100000
set_option maxHeartbeats 4000000
variable {o:aJ} (ho:aR cF bB o)
theorem cr {P:Program} {n:Nat} {t:TypeId} {ds:List D} (hs:(match P.underlying t with | some .bool=>true | some (.int _)=>true | some .string=>true | _=>false)=true) (h:Fits P n t ds):Own P n t ds:=by
 cases n with
 | zero=>simp[Fits]at h
 | succ n=>
  unfold Fits at h;unfold Own;split at h<;>first
   | (rename_i hu;rw[hu]at hs;first | (cases hs;done) | exact h | (rw[hu];exact h))
   | exact h.elim
def FK (o:aJ) (n:Nat):Prop:=∀ds,Fits Tryz.prog n 25 ds->lg 1048576 ds->∃(x0 y0 x1 y1:List D),ds=[.lst x0,.lst x1]/\o.call 17 [.agg (ds.map .d)] []=some ⟨.agg [.arr (0,0) (226,4) none true,.arr (0,1) (249,4) none true],[],[some (.orows (226,4) y0),some (.orows (249,4) y1)]⟩/\Own Tryz.prog n 37 [.own (226,4) y0,.own (249,4) y1]/\aT y0=x0/\aT y1=x1
def NZ (o:aJ) (n:Nat):Prop:=∀ds,Fits Tryz.prog n 49 ds->lg 1048576 ds->∃(x0 y0 x1 y1:List D),ds=[.lst x0,.lst x1]/\o.call 29 [.agg (ds.map .d)] []=some ⟨.agg [.arr (0,0) (192,3) none true,.arr (0,1) (31,4) none true],[],[some (.orows (192,3) y0),some (.orows (31,4) y1)]⟩/\Own Tryz.prog n 53 [.own (192,3) y0,.own (31,4) y1]/\aT y0=x0/\aT y1=x1
def FL (o:aJ) (n:Nat):Prop:=∀ds,Fits Tryz.prog n 62 ds->lg 1048576 ds->∃(c0 c1:Int) (c2:ByteArray) (x3 y3:List D),ds=[.int .i64 c0,.int .i64 c1,.str c2,.lst x3]/\o.call 88 [.agg (ds.map .d)] []=some ⟨.agg [.d (.int .i64 c0),.d (.int .i64 c1),.d (.str c2),.arr (0,0) (31,4) none true],[],[some (.orows (31,4) y3)]⟩/\Own Tryz.prog n 31 [.int .i64 c0,.int .i64 c1,.str c2,.own (31,4) y3]/\aT y3=x3
def N0 (o:aJ) (n:Nat):Prop:=∀ds,Fits Tryz.prog n 242 ds->lg 1048576 ds->∃(c0:ByteArray) (c1 c2:Int) (x3 y3:List D),ds=[.str c0,.int .i64 c1,.int .i64 c2,.lst x3]/\o.call 178 [.agg (ds.map .d)] []=some ⟨.agg [.d (.str c0),.d (.int .i64 c1),.d (.int .i64 c2),.arr (0,0) (224,4) none true],[],[some (.orows (224,4) y3)]⟩/\Own Tryz.prog n 226 [.str c0,.int .i64 c1,.int .i64 c2,.own (224,4) y3]/\aT y3=x3
def KE (o:aJ) (n:Nat):Prop:=∀ds,Fits Tryz.prog n 245 ds->lg 1048576 ds->∃(c0 c1:Int) (c2:ByteArray) (x3 y3:List D),ds=[.int .i64 c0,.int .i64 c1,.str c2,.lst x3]/\o.call 179 [.agg (ds.map .d)] []=some ⟨.agg [.d (.int .i64 c0),.d (.int .i64 c1),.d (.str c2),.arr (0,0) (249,4) none true],[],[some (.orows (249,4) y3)]⟩/\Own Tryz.prog n 249 [.int .i64 c0,.int .i64 c1,.str c2,.own (249,4) y3]/\aT y3=x3
def CZ (o:aJ) (n:Nat):Prop:=∀ds,Fits Tryz.prog n 259 ds->lg 1048576 ds->∃(c0 c1:Int) (x2 y2:List D),ds=[.int .i64 c0,.int .i64 c1,.lst x2]/\o.call 190 [.agg (ds.map .d)] []=some ⟨.agg [.d (.int .i64 c0),.d (.int .i64 c1),.arr (0,0) (31,4) none true],[],[some (.orows (31,4) y2)]⟩/\Own Tryz.prog n 192 [.int .i64 c0,.int .i64 c1,.own (31,4) y2]/\aT y2=x2
def KF (o:aJ) (n:Nat):Prop:=∀ds,Fits Tryz.prog n 388 ds->lg 1048576 ds->∃(c0 c1:Int) (c2:ByteArray) (c3:Int),ds=[.int .i64 c0,.int .i64 c1,.str c2,.int .i64 c3]/\o.call 342 [.agg (ds.map .d)] []=some ⟨.agg [.d (.int .i64 c0),.d (.int .i64 c1),.d (.str c2),.d (.int .i64 c3)],[],[]⟩/\Own Tryz.prog n 224 [.int .i64 c0,.int .i64 c1,.str c2,.int .i64 c3]/\True
def FM (o:aJ) (n t t2 e w:Nat) (k:FuncId):Prop:=∀xs,Fits Tryz.prog n t [.lst xs]->Sm 1048576 (.lst xs)->∃ys,o.call k [.d (.lst xs)] []=some ⟨.arr (0,0) (e,w) none true,[],[some (.orows (e,w) ys)]⟩/\aT ys=xs/\Own Tryz.prog n t2 [.own (e,w) ys]
def lG (o:aJ) (n:Nat):Prop:=FK o n/\FM o n 26 29 31 4 18/\NZ o n/\FM o n 22 34 226 4 86/\FM o n 23 35 249 4 87/\FL o n/\FM o n 47 51 192 3 101/\N0 o n/\KE o n/\CZ o n/\FM o n 240 216 224 4 275/\KF o n
include ho
theorem toCode {n:Nat} (ih:lG o n):FK o (n+1):=by
 intro ds h hs;obtain ⟨ac0,ac1,rfl,ah0,ah1⟩:=vz h;simp only[lg]at hs;have k0:=ah0;obtain ⟨x0,m0,em0,e_,w0,v0⟩:=aS Tryz.underlying22 ah0;injection e_ with e_;subst e_;obtain ⟨y0,q0,f0,g0⟩:=(ih.2.2.2.1) x0 k0 (by simp[hs]);have k1:=ah1;obtain ⟨x1,m1,em1,e_,w1,v1⟩:=aS Tryz.underlying23 ah1;injection e_ with e_;subst e_;obtain ⟨y1,q1,f1,g1⟩:=(ih.2.2.2.2.1) x1 k1 (by simp[hs]);exact ⟨x0,y0,x1,y1,rfl,ho.au (by cbv;rw[q0];cbv;rw[q1];cbv),IQ ⟨g0,g1⟩,f0,f1⟩
omit ho in
theorem IZ {d:List D} (h:d.length=4):∃a b c e,d=[a,b,c,e]:=by match d,h with | [a,b,c,e],_=>exact ⟨a,b,c,e,rfl⟩
omit ho in
theorem Pc {d:List D} (h:d.length=3):∃a b c,d=[a,b,c]:=by match d,h with | [a,b,c],_=>exact ⟨a,b,c,rfl⟩
theorem FN {n t t2 e e2 w key b:Nat} {k:FuncId} {zc:List D} {F:List D->List D->Int->St} {X:List D->St} (hu:Tryz.prog.underlying t=some (.slice e)) (ha:bY Tryz.prog e=true) (hu2:Tryz.prog.underlying t2=some (.slice e2)) (hw2:Tryz.prog.cellsOf e2=w) (ha2:bY Tryz.prog e2=true) (hz:zc.length=w)
  (hf:∀N:Int,0<=N->N<=1048576->o.fF b N=true) (hp:∀N,o.flat (o.qz N (.agg zc))=true)
  (c:∀xs zs N,o.len xs=N->o.cmp .eql N N=true->o.fF b N=true->o.flat (o.qz N (.agg zc))=true->o.loop key (F xs (o.qz N (.agg zc)) 0)=some (.exit 0,X zs)->o.call k [Al xs] []=some ⟨.arr (0,0) (e2,w) none true,[],[some (.orows (e2,w) zs)]⟩)
  (l1:∀xs N Y,o.len xs=N->o.cmp .lss N N=false->o.loop key (F xs Y N)=some (.exit 0,X Y))
  (l2:∀x,Fits Tryz.prog n e x->lg 1048576 x->∃y,aT y=x/\Own Tryz.prog n e2 y/\y.length=w/\∀xs N i j Y d z,o.len xs=N->o.cmp .lss i N=true->o.dD xs i=some (.agg x)->o.dD Y i=some (.agg d)->d.length=w->o.ar .add .i64 i 1=j->o.loop key (F xs (o.set Y i (.agg y)) j)=some z->o.loop key (F xs Y i)=some z):FM o (n+1) t t2 e2 w k:=by
 intro xs h hs;obtain ⟨ys,m,em,e_,wl,v⟩:=aS hu h;injection e_ with e_;injection e_ with e_;subst e_;injection em with em;subst em;simp only[Sm,kq]at hs;obtain ⟨N,hN,hn⟩:∃N:Int,N=xs.length/\o.len xs=N:=⟨_,rfl,ho.len xs⟩
 have loop:∀(m:Nat) (i:Int) (Y:List D),0<=i->i+m=N->Y.length=xs.length->(∀y∈Y,∃d,y= .agg d/\d.length=w)->∃zs,o.loop key (F xs Y i)=some (.exit 0,X zs)/\zs.length=xs.length/\(∀j,j<i.toNat->zs[j]? =Y[j]?)/\∀j,i.toNat<=j->∀x z,xs[j]? =some x->zs[j]? =some z->bn z=x/\Own Tryz.prog n e2 z.cells/\z.many=true:=by
  intro m;induction m with
  | zero=>
   intro i Y h0 h hy hd;obtain rfl:i=N:=by omega
   exact ⟨Y,l1 xs i Y hn (rE ho i),hy,λ_ _=>rfl,λj hj x z hx _=>by have:=(aq.1 hx).1;omega⟩
  | succ m ih=>
   intro i Y h0 h hy hd;obtain ⟨x,hxk⟩:∃x,xs[i.toNat]? =some x:=⟨_,bg (by omega)⟩
   obtain ⟨y,hyk⟩:∃y,Y[i.toNat]? =some y:=⟨_,bg (by omega)⟩
   obtain ⟨f1,f2⟩:=v x (List.mem_of_getElem? hxk);rw[ha]at f2;obtain ⟨y',z1,z2,z3,st⟩:=l2 x.cells f1 (jG (hs.2 x (List.mem_of_getElem? hxk)));obtain ⟨d,rfl,hdl⟩:=hd y (List.mem_of_getElem? hyk);obtain ⟨zs,i1,i2,i3,i4⟩:=ih (i+1) (o.set Y i (.agg y')) (by omega) (by omega) (by rw[ho.set];simpa using hy) (by
    rw[ho.set];intro y hy;rcases List.mem_or_eq_of_mem_set hy with hy | rfl
    ·exact hd y hy
    ·exact ⟨_,rfl,z3⟩)
   refine ⟨zs,st xs N i (i+1) Y d _ hn (nj ho (by omega)) (by rw[dA ho xs i _ h0 hxk,<-cT f2]) (dA ho Y i _ h0 hyk) hdl (inc ho h0 (show i<N by omega) (by omega)) i1,i2,λj hj=>by rw[i3 j (by omega),ho.set,List.getElem?_set_ne (by omega)],λj hj x' z hxj hzj=> ?_⟩;by_cases hjk:j=i.toNat
   ·subst hjk;rw[hxk]at hxj;injection hxj with hxj;subst hxj;rw[i3 _ (by omega),ho.set,List.getElem?_set_self (by omega)]at hzj;injection hzj with hzj;subst hzj;exact ⟨by rw[cT f2];simp only[bn,z1,D.cells],z2,rfl⟩
   ·exact i4 j (by omega) x' z hxj hzj
 obtain ⟨zs,i1,i2,i3,i4⟩:=loop xs.length 0 (o.qz N (.agg zc)) (Int.le_refl _) (by omega) (by rw[ho.qz];simp;omega) (by rw[ho.qz];intro y hy;rw[(List.mem_replicate.1 hy).2];exact ⟨_,rfl,hz⟩);refine ⟨zs,c xs zs N hn (by rw[ho.cmp];simp[qJ]) (hf N (by omega) (by omega)) (hp N) i1,?_,?_⟩
 ·rw[eG];apply List.ext_getElem?;intro j;rw[List.getElem?_map];cases hj:xs[j]? with
  | none=>rw[List.getElem?_eq_none (by rw[i2];exact List.getElem?_eq_none_iff.1 hj)];rfl
  | some x=>
   obtain ⟨z,hz⟩:∃z,zs[j]? =some z:=⟨_,bg (by rw[i2];exact (aq.1 hj).1)⟩
   rw[hz,Option.map_some,(i4 j (by simp) x z hj hz).1]
 ·refine iA hu2 hw2 (by rw[i2];exact wl) λz hz=> ?_
  obtain ⟨j,hj⟩:=List.getElem?_of_mem hz;obtain ⟨x,hxj⟩:∃x,xs[j]? =some x:=⟨_,bg (by rw[<-i2];exact (aq.1 hj).1)⟩
  obtain ⟨_,r2,r3⟩:=i4 j (by simp) x z hxj hj;exact ⟨r2,by rw[r3,ha2]⟩
theorem I0 {n:Nat} (ih:lG o n):FM o (n+1) 26 29 31 4 18:=FN ho (key:=1800) (b:=56) (zc:=[(.int .i64 0),(.int .i64 0),(.str ⟨#[]⟩),.lst []]) (F:=λxs Y i=>⟨Al xs::U::U:: .arr (7,0) (31,4) none true::Ai i::Ow,[]::[]::[]::[]::[]::[]::[]::[Oq Y]::G7⟩) (X:=λY=>⟨U::U::U:: .arr (7,0) (31,4) none true::Ox,[]::[]::[]::[]::[]::[]::[]::[Oq Y]::G7⟩) Tryz.underlying26 (by unfold bY;rw[Tryz.underlying62]) Tryz.underlying29 qw (by unfold bY;rw[Tryz.underlying31]) rfl
 (λN _ _=>by rw[ho.fF];simp;omega) (λN=>by rw[ho.flat,ho.qz];simp[dF])
 (λ_ _ _ hn h2 h3 h4 l=>ho.au (by cbv;repeat ((first | rw[hn] | rw[h2] | rw[h3] | rw[h4] | rw[l]);(try cbv))))
 (λ_ _ _ hn h=>ho.aB (by cbv;rw[hn];cbv;rw[h];cbv))
 (λx hx hs=>by
  obtain ⟨c0,c1,c2,x3,y3,rfl,hc,hw,hz0⟩:=ih.2.2.2.2.2.1 x hx hs;simp only[List.map]at hc;exact ⟨[.int .i64 c0,.int .i64 c1,.str c2,.own (31,4) y3],by simp only[aT,bn,hz0],hw,rfl,λxs N i j Y d z hn h2 h3 h5 hd h4 l=>by obtain ⟨_,_,_,_,rfl⟩:=IZ hd;exact ho.aB (by cbv;repeat ((first | rw[hn] | rw[h2] | rw[h3] | rw[hc] | rw[h5] | rw[h4] | exact l);(try cbv)))⟩)
theorem Pd {n:Nat} (ih:lG o n):NZ o (n+1):=by
 intro ds h hs;obtain ⟨ac0,ac1,rfl,ah0,ah1⟩:=vA h;simp only[lg]at hs;have k0:=ah0;obtain ⟨x0,m0,em0,e_,w0,v0⟩:=aS Tryz.underlying47 ah0;injection e_ with e_;subst e_;obtain ⟨y0,q0,f0,g0⟩:=(ih.2.2.2.2.2.2.1) x0 k0 (by simp[hs]);have k1:=ah1;obtain ⟨x1,m1,em1,e_,w1,v1⟩:=aS Tryz.underlying26 ah1;injection e_ with e_;subst e_;obtain ⟨y1,q1,f1,g1⟩:=(ih.2.1) x1 k1 (by simp[hs]);exact ⟨x0,y0,x1,y1,rfl,ho.au (by cbv;rw[q0];cbv;rw[q1];cbv),yO ⟨g0,g1⟩,f0,f1⟩
theorem N7 {n:Nat} (ih:lG o n):FM o (n+1) 22 34 226 4 86:=FN ho (key:=8600) (b:=56) (zc:=[(.str ⟨#[]⟩),(.int .i64 0),(.int .i64 0),.lst []]) (F:=λxs Y i=>⟨Al xs::U::U:: .arr (7,0) (226,4) none true::Ai i::Ow,[]::[]::[]::[]::[]::[]::[]::[some (.orows (226,4) Y)]::G7⟩) (X:=λY=>⟨U::U::U:: .arr (7,0) (226,4) none true::Ox,[]::[]::[]::[]::[]::[]::[]::[some (.orows (226,4) Y)]::G7⟩) Tryz.underlying22 (by unfold bY;rw[Tryz.underlying242]) Tryz.underlying34 Ae (by unfold bY;rw[Tryz.underlying226]) rfl
 (λN _ _=>by rw[ho.fF];simp;omega) (λN=>by rw[ho.flat,ho.qz];simp[dF])
 (λ_ _ _ hn h2 h3 h4 l=>ho.au (by cbv;repeat ((first | rw[hn] | rw[h2] | rw[h3] | rw[h4] | rw[l]);(try cbv))))
 (λ_ _ _ hn h=>ho.aB (by cbv;rw[hn];cbv;rw[h];cbv))
 (λx hx hs=>by
  obtain ⟨c0,c1,c2,x3,y3,rfl,hc,hw,hz0⟩:=ih.2.2.2.2.2.2.2.1 x hx hs;simp only[List.map]at hc;exact ⟨[.str c0,.int .i64 c1,.int .i64 c2,.own (224,4) y3],by simp only[aT,bn,hz0],hw,rfl,λxs N i j Y d z hn h2 h3 h5 hd h4 l=>by obtain ⟨_,_,_,_,rfl⟩:=IZ hd;exact ho.aB (by cbv;repeat ((first | rw[hn] | rw[h2] | rw[h3] | rw[hc] | rw[h5] | rw[h4] | exact l);(try cbv)))⟩)
theorem LU {n:Nat} (ih:lG o n):FM o (n+1) 23 35 249 4 87:=FN ho (key:=8700) (b:=56) (zc:=[(.int .i64 0),(.int .i64 0),(.str ⟨#[]⟩),.lst []]) (F:=λxs Y i=>⟨Al xs::U::U:: .arr (7,0) (249,4) none true::Ai i::Ow,[]::[]::[]::[]::[]::[]::[]::[some (.orows (249,4) Y)]::G7⟩) (X:=λY=>⟨U::U::U:: .arr (7,0) (249,4) none true::Ox,[]::[]::[]::[]::[]::[]::[]::[some (.orows (249,4) Y)]::G7⟩) Tryz.underlying23 (by unfold bY;rw[Tryz.underlying245]) Tryz.underlying35 xJ (by unfold bY;rw[Tryz.underlying249]) rfl
 (λN _ _=>by rw[ho.fF];simp;omega) (λN=>by rw[ho.flat,ho.qz];simp[dF])
 (λ_ _ _ hn h2 h3 h4 l=>ho.au (by cbv;repeat ((first | rw[hn] | rw[h2] | rw[h3] | rw[h4] | rw[l]);(try cbv))))
 (λ_ _ _ hn h=>ho.aB (by cbv;rw[hn];cbv;rw[h];cbv))
 (λx hx hs=>by
  obtain ⟨c0,c1,c2,x3,y3,rfl,hc,hw,hz0⟩:=ih.2.2.2.2.2.2.2.2.1 x hx hs;simp only[List.map]at hc;exact ⟨[.int .i64 c0,.int .i64 c1,.str c2,.own (249,4) y3],by simp only[aT,bn,hz0],hw,rfl,λxs N i j Y d z hn h2 h3 h5 hd h4 l=>by obtain ⟨_,_,_,_,rfl⟩:=IZ hd;exact ho.aB (by cbv;repeat ((first | rw[hn] | rw[h2] | rw[h3] | rw[hc] | rw[h5] | rw[h4] | exact l);(try cbv)))⟩)
theorem LV {n:Nat} (ih:lG o n):FL o (n+1):=by
 intro ds h hs;obtain ⟨ac0,ac1,ac2,ac3,rfl,ah0,ah1,ah2,ah3⟩:=vB h;simp only[lg]at hs;have k0:=ah0;obtain ⟨x0,e_,w0⟩:=fits_int Tryz.underlying3 ah0;injection e_ with e_;subst e_;have k1:=ah1;obtain ⟨x1,e_,w1⟩:=fits_int Tryz.underlying3 ah1;injection e_ with e_;subst e_;have k2:=ah2;obtain ⟨x2,e_,w2⟩:=fJ Tryz.underlying9 ah2;injection e_ with e_;subst e_;have k3:=ah3;obtain ⟨x3,m3,em3,e_,w3,v3⟩:=aS Tryz.underlying26 ah3;injection e_ with e_;subst e_;obtain ⟨y3,q3,f3,g3⟩:=(ih.2.1) x3 k3 (by simp[hs]);exact ⟨x0,x1,x2,x3,y3,rfl,ho.au (by cbv;rw[q3];cbv),yN ⟨(cr (by rw[Tryz.underlying3]) k0),(cr (by rw[Tryz.underlying3]) k1),(cr (by rw[Tryz.underlying9]) k2),g3⟩,f3⟩
theorem FO {n:Nat} (ih:lG o n):FM o (n+1) 47 51 192 3 101:=FN ho (key:=10100) (b:=40) (zc:=[(.int .i64 0),(.int .i64 0),.lst []]) (F:=λxs Y i=>⟨Al xs::U::U:: .arr (7,0) (192,3) none true::Ai i::Ow,[]::[]::[]::[]::[]::[]::[]::[Oo Y]::G7⟩) (X:=λY=>⟨U::U::U:: .arr (7,0) (192,3) none true::Ox,[]::[]::[]::[]::[]::[]::[]::[Oo Y]::G7⟩) Tryz.underlying47 (by unfold bY;rw[Tryz.underlying259]) Tryz.underlying51 tN (by unfold bY;rw[Tryz.underlying192]) rfl
 (λN _ _=>by rw[ho.fF];simp;omega) (λN=>by rw[ho.flat,ho.qz];simp[dF])
 (λ_ _ _ hn h2 h3 h4 l=>ho.au (by cbv;repeat ((first | rw[hn] | rw[h2] | rw[h3] | rw[h4] | rw[l]);(try cbv))))
 (λ_ _ _ hn h=>ho.aB (by cbv;rw[hn];cbv;rw[h];cbv))
 (λx hx hs=>by
  obtain ⟨c0,c1,x2,y2,rfl,hc,hw,hz0⟩:=ih.2.2.2.2.2.2.2.2.2.1 x hx hs;simp only[List.map]at hc;exact ⟨[.int .i64 c0,.int .i64 c1,.own (31,4) y2],by simp only[aT,bn,hz0],hw,rfl,λxs N i j Y d z hn h2 h3 h5 hd h4 l=>by obtain ⟨_,_,_,rfl⟩:=Pc hd;exact ho.aB (by cbv;repeat ((first | rw[hn] | rw[h2] | rw[h3] | rw[hc] | rw[h5] | rw[h4] | exact l);(try cbv)))⟩)
theorem Pe {n:Nat} (ih:lG o n):N0 o (n+1):=by
 intro ds h hs;obtain ⟨ac0,ac1,ac2,ac3,rfl,ah0,ah1,ah2,ah3⟩:=rz h;simp only[lg]at hs;have k0:=ah0;obtain ⟨x0,e_,w0⟩:=fJ Tryz.underlying9 ah0;injection e_ with e_;subst e_;have k1:=ah1;obtain ⟨x1,e_,w1⟩:=fits_int Tryz.underlying3 ah1;injection e_ with e_;subst e_;have k2:=ah2;obtain ⟨x2,e_,w2⟩:=fits_int Tryz.underlying3 ah2;injection e_ with e_;subst e_;have k3:=ah3;obtain ⟨x3,m3,em3,e_,w3,v3⟩:=aS Tryz.underlying240 ah3;injection e_ with e_;subst e_;obtain ⟨y3,q3,f3,g3⟩:=(ih.2.2.2.2.2.2.2.2.2.2.1) x3 k3 (by simp[hs]);exact ⟨x0,x1,x2,x3,y3,rfl,ho.au (by cbv;rw[q3];cbv),Fz ⟨(cr (by rw[Tryz.underlying9]) k0),(cr (by rw[Tryz.underlying3]) k1),(cr (by rw[Tryz.underlying3]) k2),g3⟩,f3⟩
theorem N8 {n:Nat} (ih:lG o n):KE o (n+1):=by
 intro ds h hs;obtain ⟨ac0,ac1,ac2,ac3,rfl,ah0,ah1,ah2,ah3⟩:=rC h;simp only[lg]at hs;have k0:=ah0;obtain ⟨x0,e_,w0⟩:=fits_int Tryz.underlying3 ah0;injection e_ with e_;subst e_;have k1:=ah1;obtain ⟨x1,e_,w1⟩:=fits_int Tryz.underlying3 ah1;injection e_ with e_;subst e_;have k2:=ah2;obtain ⟨x2,e_,w2⟩:=fJ Tryz.underlying9 ah2;injection e_ with e_;subst e_;have k3:=ah3;obtain ⟨x3,m3,em3,e_,w3,v3⟩:=aS Tryz.underlying23 ah3;injection e_ with e_;subst e_;obtain ⟨y3,q3,f3,g3⟩:=(ih.2.2.2.2.1) x3 k3 (by simp[hs]);exact ⟨x0,x1,x2,x3,y3,rfl,ho.au (by cbv;rw[q3];cbv),FA ⟨(cr (by rw[Tryz.underlying3]) k0),(cr (by rw[Tryz.underlying3]) k1),(cr (by rw[Tryz.underlying9]) k2),g3⟩,f3⟩
theorem I3 {n:Nat} (ih:lG o n):CZ o (n+1):=by
 intro ds h hs;obtain ⟨ac0,ac1,ac2,rfl,ah0,ah1,ah2⟩:=rD h;simp only[lg]at hs;have k0:=ah0;obtain ⟨x0,e_,w0⟩:=fits_int Tryz.underlying3 ah0;injection e_ with e_;subst e_;have k1:=ah1;obtain ⟨x1,e_,w1⟩:=fits_int Tryz.underlying3 ah1;injection e_ with e_;subst e_;have k2:=ah2;obtain ⟨x2,m2,em2,e_,w2,v2⟩:=aS Tryz.underlying26 ah2;injection e_ with e_;subst e_;obtain ⟨y2,q2,f2,g2⟩:=(ih.2.1) x2 k2 (by simp[hs]);exact ⟨x0,x1,x2,y2,rfl,ho.au (by cbv;rw[q2];cbv),Af ⟨(cr (by rw[Tryz.underlying3]) k0),(cr (by rw[Tryz.underlying3]) k1),g2⟩,f2⟩
theorem LW {n:Nat} (ih:lG o n):FM o (n+1) 240 216 224 4 275:=FN ho (key:=27500) (b:=40) (zc:=[(.int .i64 0),(.int .i64 0),(.str ⟨#[]⟩),(.int .i64 0)]) (F:=λxs Y i=>⟨Al xs::U::U:: .arr (7,0) (224,4) none true::Ai i::Ow,[]::[]::[]::[]::[]::[]::[]::[some (.orows (224,4) Y)]::G7⟩) (X:=λY=>⟨U::U::U:: .arr (7,0) (224,4) none true::Ox,[]::[]::[]::[]::[]::[]::[]::[some (.orows (224,4) Y)]::G7⟩) Tryz.underlying240 (by unfold bY;rw[Tryz.underlying388]) Tryz.underlying216 xI (by unfold bY;rw[Tryz.underlying224]) rfl
 (λN _ _=>by rw[ho.fF];simp;omega) (λN=>by rw[ho.flat,ho.qz];simp[dF])
 (λ_ _ _ hn h2 h3 h4 l=>ho.au (by cbv;repeat ((first | rw[hn] | rw[h2] | rw[h3] | rw[h4] | rw[l]);(try cbv))))
 (λ_ _ _ hn h=>ho.aB (by cbv;rw[hn];cbv;rw[h];cbv))
 (λx hx hs=>by
  obtain ⟨c0,c1,c2,c3,rfl,hc,hw,hz0⟩:=ih.2.2.2.2.2.2.2.2.2.2.2 x hx hs;simp only[List.map]at hc;exact ⟨[.int .i64 c0,.int .i64 c1,.str c2,.int .i64 c3],by simp only[aT,bn],hw,rfl,λxs N i j Y d z hn h2 h3 h5 hd h4 l=>by obtain ⟨_,_,_,_,rfl⟩:=IZ hd;exact ho.aB (by cbv;repeat ((first | rw[hn] | rw[h2] | rw[h3] | rw[hc] | rw[h5] | rw[h4] | exact l);(try cbv)))⟩)
theorem N9 {n:Nat} (ih:lG o n):KF o (n+1):=by
 intro ds h hs;obtain ⟨ac0,ac1,ac2,ac3,rfl,ah0,ah1,ah2,ah3⟩:=uJ h;simp only[lg]at hs;have k0:=ah0;obtain ⟨x0,e_,w0⟩:=fits_int Tryz.underlying3 ah0;injection e_ with e_;subst e_;have k1:=ah1;obtain ⟨x1,e_,w1⟩:=fits_int Tryz.underlying3 ah1;injection e_ with e_;subst e_;have k2:=ah2;obtain ⟨x2,e_,w2⟩:=fJ Tryz.underlying9 ah2;injection e_ with e_;subst e_;have k3:=ah3;obtain ⟨x3,e_,w3⟩:=fits_int Tryz.underlying3 ah3;injection e_ with e_;subst e_;exact ⟨x0,x1,x2,x3,rfl,ho.au (by cbv),Fy ⟨(cr (by rw[Tryz.underlying3]) k0),(cr (by rw[Tryz.underlying3]) k1),(cr (by rw[Tryz.underlying9]) k2),(cr (by rw[Tryz.underlying3]) k3)⟩,trivial⟩
theorem mD:∀n,lG o n
 | 0=>by
  unfold lG;refine ⟨?_,?_,?_,?_,?_,?_,?_,?_,?_,?_,?_,?_⟩<;>(intro x h;simp[Fits]at h)
 | n+1=>have ih:=mD n;⟨toCode ho ih,I0 ho ih,Pd ho ih,N7 ho ih,LU ho ih,LV ho ih,FO ho ih,Pe ho ih,N8 ho ih,I3 ho ih,LW ho ih,N9 ho ih⟩
end T2
