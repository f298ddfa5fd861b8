import Derived.Test.YtfnagkpidcdocaaGreatProg
import Derived.KernelRfl
import Derived.Test.YtfnagkpidcdocaaGreatM27
set_option linter.all false
open Go Go.Vi Go.Proofs Go.Proofs.Tryz
namespace T2
set_option maxRecDepth 100000
set_option maxHeartbeats 4000000
theorem wk:prog.cellsOf 3=1:=by kernel_rfl
theorem Si:prog.cellsOf 4=1:=by kernel_rfl
theorem wm:prog.cellsOf 9=1:=by kernel_rfl
theorem SR:prog.cellsOf 22=1:=by kernel_rfl
theorem Rz:prog.cellsOf 23=1:=by kernel_rfl
theorem RA:prog.cellsOf 25=2:=by kernel_rfl
theorem RB:prog.cellsOf 26=1:=by kernel_rfl
theorem G5:prog.cellsOf 29=1:=by kernel_rfl
theorem oV:prog.cellsOf 31=4:=by kernel_rfl
theorem Pk:prog.cellsOf 34=1:=by kernel_rfl
theorem G6:prog.cellsOf 35=1:=by kernel_rfl
theorem G7:prog.cellsOf 37=2:=by kernel_rfl
theorem RE:prog.cellsOf 62=4:=by kernel_rfl
theorem SS:prog.cellsOf 64=9:=by kernel_rfl
theorem Pm:prog.cellsOf 68=9:=by kernel_rfl
theorem Az:prog.cellsOf 120=8:=by kernel_rfl
theorem RF:prog.cellsOf 152=7:=by kernel_rfl
theorem AA:prog.cellsOf 158=7:=by kernel_rfl
theorem Jb:prog.cellsOf 216=1:=by kernel_rfl
theorem AB:prog.cellsOf 224=4:=by kernel_rfl
theorem xP:prog.cellsOf 226=4:=by kernel_rfl
theorem RG:prog.cellsOf 240=1:=by kernel_rfl
theorem RH:prog.cellsOf 242=4:=by kernel_rfl
theorem RI:prog.cellsOf 245=4:=by kernel_rfl
theorem u4:prog.cellsOf 249=4:=by kernel_rfl
theorem RJ:prog.cellsOf 388=4:=by kernel_rfl
theorem Es {n:Nat} {ds:Lq} (h:Fits prog (n+1) 25 ds):∃e j,ds=[e,j]/\Fits prog n 22 [e]/\Fits prog n 23 [j]:=by
 simp only[Fits,underlying25]at h;obtain ⟨E,I⟩:=h;rw[RA]at E;obtain ⟨e,J,rfl,g0⟩:=aq E;obtain ⟨j,M,rfl,g1⟩:=aq g0;obtain rfl:=List.length_eq_zero_iff.1 g1;simp[SR,Rz]at I;exact ⟨e,j,rfl,I⟩
theorem Jc {n:Nat} {ds:Lq} (h:Fits prog (n+1) 31 ds):∃e j c2 E,ds=[e,j,c2,E]/\Fits prog n 3 [e]/\Fits prog n 3 [j]/\Fits prog n 9 [c2]/\Fits prog n 29 [E]:=by
 simp only[Fits,underlying31]at h;obtain ⟨I,J⟩:=h;rw[oV]at I;obtain ⟨e,M,rfl,g0⟩:=aq I;obtain ⟨j,O,rfl,g1⟩:=aq g0;obtain ⟨c2,S,rfl,g2⟩:=aq g1;obtain ⟨E,U,rfl,g3⟩:=aq g2;obtain rfl:=List.length_eq_zero_iff.1 g3;simp[wk,wm,G5]at J;exact ⟨e,j,c2,E,rfl,J⟩
theorem AE {n:Nat} {ds:Lq} (h:Own prog (n+1) 31 ds):∃e j c2 E,ds=[e,j,c2,E]/\Own prog n 3 [e]/\Own prog n 3 [j]/\Own prog n 9 [c2]/\Own prog n 29 [E]:=by
 simp only[Own,underlying31]at h;obtain ⟨I,J⟩:=h;rw[oV]at I;obtain ⟨e,M,rfl,g0⟩:=aq I;obtain ⟨j,O,rfl,g1⟩:=aq g0;obtain ⟨c2,S,rfl,g2⟩:=aq g1;obtain ⟨E,U,rfl,g3⟩:=aq g2;obtain rfl:=List.length_eq_zero_iff.1 g3;simp[wk,wm,G5]at J;exact ⟨e,j,c2,E,rfl,J⟩
theorem FP {n:Nat} {e j c2 E:D} (h:Own prog n 3 [e]/\Own prog n 3 [j]/\Own prog n 9 [c2]/\Own prog n 29 [E]):Own prog (n+1) 31 [e,j,c2,E]:=by
 refine ep underlying31 (by rw[oV];rfl) ?_;simp[wk,wm,G5];exact h
theorem Pn {n:Nat} {ds:Lq} (h:Fits prog (n+1) 37 ds):∃e j,ds=[e,j]/\Fits prog n 34 [e]/\Fits prog n 35 [j]:=by
 simp only[Fits,underlying37]at h;obtain ⟨E,I⟩:=h;rw[G7]at E;obtain ⟨e,J,rfl,g0⟩:=aq E;obtain ⟨j,M,rfl,g1⟩:=aq g0;obtain rfl:=List.length_eq_zero_iff.1 g1;simp[Pk,G6]at I;exact ⟨e,j,rfl,I⟩
theorem NR {n:Nat} {ds:Lq} (h:Own prog (n+1) 37 ds):∃e j,ds=[e,j]/\Own prog n 34 [e]/\Own prog n 35 [j]:=by
 simp only[Own,underlying37]at h;obtain ⟨E,I⟩:=h;rw[G7]at E;obtain ⟨e,J,rfl,g0⟩:=aq E;obtain ⟨j,M,rfl,g1⟩:=aq g0;obtain rfl:=List.length_eq_zero_iff.1 g1;simp[Pk,G6]at I;exact ⟨e,j,rfl,I⟩
theorem LZ {n:Nat} {e j:D} (h:Own prog n 34 [e]/\Own prog n 35 [j]):Own prog (n+1) 37 [e,j]:=by
 refine ep underlying37 (by rw[G7];rfl) ?_;simp[Pk,G6];exact h
theorem uj {n:Nat} {ds:Lq} (h:Fits prog (n+1) 62 ds):∃e j c2 E,ds=[e,j,c2,E]/\Fits prog n 3 [e]/\Fits prog n 3 [j]/\Fits prog n 9 [c2]/\Fits prog n 26 [E]:=by
 simp only[Fits,underlying62]at h;obtain ⟨I,J⟩:=h;rw[RE]at I;obtain ⟨e,M,rfl,g0⟩:=aq I;obtain ⟨j,O,rfl,g1⟩:=aq g0;obtain ⟨c2,S,rfl,g2⟩:=aq g1;obtain ⟨E,U,rfl,g3⟩:=aq g2;obtain rfl:=List.length_eq_zero_iff.1 g3;simp[wk,wm,RB]at J;exact ⟨e,j,c2,E,rfl,J⟩
theorem Et {n:Nat} {ds:Lq} (h:Fits prog (n+1) 64 ds):∃e j c2 E I J M O S,ds=[e,j,c2,E,I,J,M,O,S]/\Fits prog n 3 [e]/\Fits prog n 9 [j]/\Fits prog n 9 [c2]/\Fits prog n 3 [E]/\Fits prog n 62 [I,J,M,O]/\Fits prog n 26 [S]:=by
 simp only[Fits,underlying64]at h;obtain ⟨U,V⟩:=h;rw[SS]at U;obtain ⟨e,e0,rfl,g0⟩:=aq U;obtain ⟨j,e1,rfl,g1⟩:=aq g0;obtain ⟨c2,e2,rfl,g2⟩:=aq g1;obtain ⟨E,e3,rfl,g3⟩:=aq g2;obtain ⟨I,e4,rfl,g4⟩:=aq g3;obtain ⟨J,e5,rfl,g5⟩:=aq g4;obtain ⟨M,e6,rfl,g6⟩:=aq g5;obtain ⟨O,e7,rfl,g7⟩:=aq g6;obtain ⟨S,e8,rfl,g8⟩:=aq g7;obtain rfl:=List.length_eq_zero_iff.1 g8;simp[wk,wm,RB,RE]at V;exact ⟨e,j,c2,E,I,J,M,O,S,rfl,V⟩
theorem Po {n:Nat} {ds:Lq} (h:Fits prog (n+1) 68 ds):∃e j c2 E I J M O S,ds=[e,j,c2,E,I,J,M,O,S]/\Fits prog n 3 [e]/\Fits prog n 9 [j]/\Fits prog n 9 [c2]/\Fits prog n 3 [E]/\Fits prog n 31 [I,J,M,O]/\Fits prog n 29 [S]:=by
 simp only[Fits,underlying68]at h;obtain ⟨U,V⟩:=h;rw[Pm]at U;obtain ⟨e,e0,rfl,g0⟩:=aq U;obtain ⟨j,e1,rfl,g1⟩:=aq g0;obtain ⟨c2,e2,rfl,g2⟩:=aq g1;obtain ⟨E,e3,rfl,g3⟩:=aq g2;obtain ⟨I,e4,rfl,g4⟩:=aq g3;obtain ⟨J,e5,rfl,g5⟩:=aq g4;obtain ⟨M,e6,rfl,g6⟩:=aq g5;obtain ⟨O,e7,rfl,g7⟩:=aq g6;obtain ⟨S,e8,rfl,g8⟩:=aq g7;obtain rfl:=List.length_eq_zero_iff.1 g8;simp[wk,wm,G5,oV]at V;exact ⟨e,j,c2,E,I,J,M,O,S,rfl,V⟩
theorem Jd {n:Nat} {ds:Lq} (h:Own prog (n+1) 68 ds):∃e j c2 E I J M O S,ds=[e,j,c2,E,I,J,M,O,S]/\Own prog n 3 [e]/\Own prog n 9 [j]/\Own prog n 9 [c2]/\Own prog n 3 [E]/\Own prog n 31 [I,J,M,O]/\Own prog n 29 [S]:=by
 simp only[Own,underlying68]at h;obtain ⟨U,V⟩:=h;rw[Pm]at U;obtain ⟨e,e0,rfl,g0⟩:=aq U;obtain ⟨j,e1,rfl,g1⟩:=aq g0;obtain ⟨c2,e2,rfl,g2⟩:=aq g1;obtain ⟨E,e3,rfl,g3⟩:=aq g2;obtain ⟨I,e4,rfl,g4⟩:=aq g3;obtain ⟨J,e5,rfl,g5⟩:=aq g4;obtain ⟨M,e6,rfl,g6⟩:=aq g5;obtain ⟨O,e7,rfl,g7⟩:=aq g6;obtain ⟨S,e8,rfl,g8⟩:=aq g7;obtain rfl:=List.length_eq_zero_iff.1 g8;simp[wk,wm,G5,oV]at V;exact ⟨e,j,c2,E,I,J,M,O,S,rfl,V⟩
theorem FQ {n:Nat} {e j c2 E I J M O S:D} (h:Own prog n 3 [e]/\Own prog n 9 [j]/\Own prog n 9 [c2]/\Own prog n 3 [E]/\Own prog n 31 [I,J,M,O]/\Own prog n 29 [S]):Own prog (n+1) 68 [e,j,c2,E,I,J,M,O,S]:=by
 refine ep underlying68 (by rw[Pm];rfl) ?_;simp[wk,wm,G5,oV];exact h
theorem FR {n:Nat} {ds:Lq} (h:Fits prog (n+1) 120 ds):∃e j c2 E I J M O,ds=[e,j,c2,E,I,J,M,O]/\Fits prog n 31 [e,j,c2,E]/\Fits prog n 31 [I,J,M,O]:=by
 simp only[Fits,underlying120]at h;obtain ⟨S,U⟩:=h;rw[Az]at S;obtain ⟨e,e0,rfl,g0⟩:=aq S;obtain ⟨j,e1,rfl,g1⟩:=aq g0;obtain ⟨c2,e2,rfl,g2⟩:=aq g1;obtain ⟨E,e3,rfl,g3⟩:=aq g2;obtain ⟨I,e4,rfl,V⟩:=aq g3;obtain ⟨J,e5,rfl,g5⟩:=aq V;obtain ⟨M,e6,rfl,g6⟩:=aq g5;obtain ⟨O,e7,rfl,g7⟩:=aq g6;obtain rfl:=List.length_eq_zero_iff.1 g7;simp[oV]at U;exact ⟨e,j,c2,E,I,J,M,O,rfl,U⟩
theorem Pp {n:Nat} {ds:Lq} (h:Own prog (n+1) 120 ds):∃e j c2 E I J M O,ds=[e,j,c2,E,I,J,M,O]/\Own prog n 31 [e,j,c2,E]/\Own prog n 31 [I,J,M,O]:=by
 simp only[Own,underlying120]at h;obtain ⟨S,U⟩:=h;rw[Az]at S;obtain ⟨e,e0,rfl,g0⟩:=aq S;obtain ⟨j,e1,rfl,g1⟩:=aq g0;obtain ⟨c2,e2,rfl,g2⟩:=aq g1;obtain ⟨E,e3,rfl,g3⟩:=aq g2;obtain ⟨I,e4,rfl,V⟩:=aq g3;obtain ⟨J,e5,rfl,g5⟩:=aq V;obtain ⟨M,e6,rfl,g6⟩:=aq g5;obtain ⟨O,e7,rfl,g7⟩:=aq g6;obtain rfl:=List.length_eq_zero_iff.1 g7;simp[oV]at U;exact ⟨e,j,c2,E,I,J,M,O,rfl,U⟩
theorem Je {n:Nat} {e j c2 E I J M O:D} (h:Own prog n 31 [e,j,c2,E]/\Own prog n 31 [I,J,M,O]):Own prog (n+1) 120 [e,j,c2,E,I,J,M,O]:=by
 refine ep underlying120 (by rw[Az];rfl) ?_;simp[oV];exact h
theorem sV {n:Nat} {ds:Lq} (h:Fits prog (n+1) 152 ds):∃e j c2 E I J M,ds=[e,j,c2,E,I,J,M]/\Fits prog n 9 [e]/\Fits prog n 3 [j]/\Fits prog n 25 [c2,E]/\Fits prog n 4 [I]/\Fits prog n 25 [J,M]:=by
 simp only[Fits,underlying152]at h;obtain ⟨O,S⟩:=h;rw[RF]at O;obtain ⟨e,e0,rfl,g0⟩:=aq O;obtain ⟨j,e1,rfl,g1⟩:=aq g0;obtain ⟨c2,e2,rfl,g2⟩:=aq g1;obtain ⟨E,e3,rfl,g3⟩:=aq g2;obtain ⟨I,e4,rfl,U⟩:=aq g3;obtain ⟨J,e5,rfl,V⟩:=aq U;obtain ⟨M,e6,rfl,g6⟩:=aq V;obtain rfl:=List.length_eq_zero_iff.1 g6;simp[wk,Si,wm,RA]at S;exact ⟨e,j,c2,E,I,J,M,rfl,S⟩
theorem FU {n:Nat} {ds:Lq} (h:Fits prog (n+1) 158 ds):∃e j c2 E I J M,ds=[e,j,c2,E,I,J,M]/\Fits prog n 9 [e]/\Fits prog n 3 [j]/\Fits prog n 37 [c2,E]/\Fits prog n 4 [I]/\Fits prog n 37 [J,M]:=by
 simp only[Fits,underlying158]at h;obtain ⟨O,S⟩:=h;rw[AA]at O;obtain ⟨e,e0,rfl,g0⟩:=aq O;obtain ⟨j,e1,rfl,g1⟩:=aq g0;obtain ⟨c2,e2,rfl,g2⟩:=aq g1;obtain ⟨E,e3,rfl,g3⟩:=aq g2;obtain ⟨I,e4,rfl,U⟩:=aq g3;obtain ⟨J,e5,rfl,V⟩:=aq U;obtain ⟨M,e6,rfl,g6⟩:=aq V;obtain rfl:=List.length_eq_zero_iff.1 g6;simp[wk,Si,wm,G7]at S;exact ⟨e,j,c2,E,I,J,M,rfl,S⟩
theorem Pq {n:Nat} {ds:Lq} (h:Own prog (n+1) 158 ds):∃e j c2 E I J M,ds=[e,j,c2,E,I,J,M]/\Own prog n 9 [e]/\Own prog n 3 [j]/\Own prog n 37 [c2,E]/\Own prog n 4 [I]/\Own prog n 37 [J,M]:=by
 simp only[Own,underlying158]at h;obtain ⟨O,S⟩:=h;rw[AA]at O;obtain ⟨e,e0,rfl,g0⟩:=aq O;obtain ⟨j,e1,rfl,g1⟩:=aq g0;obtain ⟨c2,e2,rfl,g2⟩:=aq g1;obtain ⟨E,e3,rfl,g3⟩:=aq g2;obtain ⟨I,e4,rfl,U⟩:=aq g3;obtain ⟨J,e5,rfl,V⟩:=aq U;obtain ⟨M,e6,rfl,g6⟩:=aq V;obtain rfl:=List.length_eq_zero_iff.1 g6;simp[wk,Si,wm,G7]at S;exact ⟨e,j,c2,E,I,J,M,rfl,S⟩
theorem Jf {n:Nat} {e j c2 E I J M:D} (h:Own prog n 9 [e]/\Own prog n 3 [j]/\Own prog n 37 [c2,E]/\Own prog n 4 [I]/\Own prog n 37 [J,M]):Own prog (n+1) 158 [e,j,c2,E,I,J,M]:=by
 refine ep underlying158 (by rw[AA];rfl) ?_;simp[wk,Si,wm,G7];exact h
theorem FV {n:Nat} {ds:Lq} (h:Fits prog (n+1) 224 ds):∃e j c2 E,ds=[e,j,c2,E]/\Fits prog n 3 [e]/\Fits prog n 3 [j]/\Fits prog n 9 [c2]/\Fits prog n 3 [E]:=by
 simp only[Fits,underlying224]at h;obtain ⟨I,J⟩:=h;rw[AB]at I;obtain ⟨e,M,rfl,g0⟩:=aq I;obtain ⟨j,O,rfl,g1⟩:=aq g0;obtain ⟨c2,S,rfl,g2⟩:=aq g1;obtain ⟨E,U,rfl,g3⟩:=aq g2;obtain rfl:=List.length_eq_zero_iff.1 g3;simp[wk,wm]at J;exact ⟨e,j,c2,E,rfl,J⟩
theorem Pr {n:Nat} {ds:Lq} (h:Own prog (n+1) 224 ds):∃e j c2 E,ds=[e,j,c2,E]/\Own prog n 3 [e]/\Own prog n 3 [j]/\Own prog n 9 [c2]/\Own prog n 3 [E]:=by
 simp only[Own,underlying224]at h;obtain ⟨I,J⟩:=h;rw[AB]at I;obtain ⟨e,M,rfl,g0⟩:=aq I;obtain ⟨j,O,rfl,g1⟩:=aq g0;obtain ⟨c2,S,rfl,g2⟩:=aq g1;obtain ⟨E,U,rfl,g3⟩:=aq g2;obtain rfl:=List.length_eq_zero_iff.1 g3;simp[wk,wm]at J;exact ⟨e,j,c2,E,rfl,J⟩
theorem Jg {n:Nat} {e j c2 E:D} (h:Own prog n 3 [e]/\Own prog n 3 [j]/\Own prog n 9 [c2]/\Own prog n 3 [E]):Own prog (n+1) 224 [e,j,c2,E]:=by
 refine ep underlying224 (by rw[AB];rfl) ?_;simp[wk,wm];exact h
theorem FW {n:Nat} {ds:Lq} (h:Fits prog (n+1) 226 ds):∃e j c2 E,ds=[e,j,c2,E]/\Fits prog n 9 [e]/\Fits prog n 3 [j]/\Fits prog n 3 [c2]/\Fits prog n 216 [E]:=by
 simp only[Fits,underlying226]at h;obtain ⟨I,J⟩:=h;rw[xP]at I;obtain ⟨e,M,rfl,g0⟩:=aq I;obtain ⟨j,O,rfl,g1⟩:=aq g0;obtain ⟨c2,S,rfl,g2⟩:=aq g1;obtain ⟨E,U,rfl,g3⟩:=aq g2;obtain rfl:=List.length_eq_zero_iff.1 g3;simp[wk,wm,Jb]at J;exact ⟨e,j,c2,E,rfl,J⟩
theorem Pt {n:Nat} {ds:Lq} (h:Own prog (n+1) 226 ds):∃e j c2 E,ds=[e,j,c2,E]/\Own prog n 9 [e]/\Own prog n 3 [j]/\Own prog n 3 [c2]/\Own prog n 216 [E]:=by
 simp only[Own,underlying226]at h;obtain ⟨I,J⟩:=h;rw[xP]at I;obtain ⟨e,M,rfl,g0⟩:=aq I;obtain ⟨j,O,rfl,g1⟩:=aq g0;obtain ⟨c2,S,rfl,g2⟩:=aq g1;obtain ⟨E,U,rfl,g3⟩:=aq g2;obtain rfl:=List.length_eq_zero_iff.1 g3;simp[wk,wm,Jb]at J;exact ⟨e,j,c2,E,rfl,J⟩
theorem Jh {n:Nat} {e j c2 E:D} (h:Own prog n 9 [e]/\Own prog n 3 [j]/\Own prog n 3 [c2]/\Own prog n 216 [E]):Own prog (n+1) 226 [e,j,c2,E]:=by
 refine ep underlying226 (by rw[xP];rfl) ?_;simp[wk,wm,Jb];exact h
theorem sW {n:Nat} {ds:Lq} (h:Fits prog (n+1) 242 ds):∃e j c2 E,ds=[e,j,c2,E]/\Fits prog n 9 [e]/\Fits prog n 3 [j]/\Fits prog n 3 [c2]/\Fits prog n 240 [E]:=by
 simp only[Fits,underlying242]at h;obtain ⟨I,J⟩:=h;rw[RH]at I;obtain ⟨e,M,rfl,g0⟩:=aq I;obtain ⟨j,O,rfl,g1⟩:=aq g0;obtain ⟨c2,S,rfl,g2⟩:=aq g1;obtain ⟨E,U,rfl,g3⟩:=aq g2;obtain rfl:=List.length_eq_zero_iff.1 g3;simp[wk,wm,RG]at J;exact ⟨e,j,c2,E,rfl,J⟩
theorem sX {n:Nat} {ds:Lq} (h:Fits prog (n+1) 245 ds):∃e j c2 E,ds=[e,j,c2,E]/\Fits prog n 3 [e]/\Fits prog n 3 [j]/\Fits prog n 9 [c2]/\Fits prog n 23 [E]:=by
 simp only[Fits,underlying245]at h;obtain ⟨I,J⟩:=h;rw[RI]at I;obtain ⟨e,M,rfl,g0⟩:=aq I;obtain ⟨j,O,rfl,g1⟩:=aq g0;obtain ⟨c2,S,rfl,g2⟩:=aq g1;obtain ⟨E,U,rfl,g3⟩:=aq g2;obtain rfl:=List.length_eq_zero_iff.1 g3;simp[wk,wm,Rz]at J;exact ⟨e,j,c2,E,rfl,J⟩
theorem FX {n:Nat} {ds:Lq} (h:Fits prog (n+1) 249 ds):∃e j c2 E,ds=[e,j,c2,E]/\Fits prog n 3 [e]/\Fits prog n 3 [j]/\Fits prog n 9 [c2]/\Fits prog n 35 [E]:=by
 simp only[Fits,underlying249]at h;obtain ⟨I,J⟩:=h;rw[u4]at I;obtain ⟨e,M,rfl,g0⟩:=aq I;obtain ⟨j,O,rfl,g1⟩:=aq g0;obtain ⟨c2,S,rfl,g2⟩:=aq g1;obtain ⟨E,U,rfl,g3⟩:=aq g2;obtain rfl:=List.length_eq_zero_iff.1 g3;simp[wk,wm,G6]at J;exact ⟨e,j,c2,E,rfl,J⟩
theorem Pu {n:Nat} {ds:Lq} (h:Own prog (n+1) 249 ds):∃e j c2 E,ds=[e,j,c2,E]/\Own prog n 3 [e]/\Own prog n 3 [j]/\Own prog n 9 [c2]/\Own prog n 35 [E]:=by
 simp only[Own,underlying249]at h;obtain ⟨I,J⟩:=h;rw[u4]at I;obtain ⟨e,M,rfl,g0⟩:=aq I;obtain ⟨j,O,rfl,g1⟩:=aq g0;obtain ⟨c2,S,rfl,g2⟩:=aq g1;obtain ⟨E,U,rfl,g3⟩:=aq g2;obtain rfl:=List.length_eq_zero_iff.1 g3;simp[wk,wm,G6]at J;exact ⟨e,j,c2,E,rfl,J⟩
theorem Ji {n:Nat} {e j c2 E:D} (h:Own prog n 3 [e]/\Own prog n 3 [j]/\Own prog n 9 [c2]/\Own prog n 35 [E]):Own prog (n+1) 249 [e,j,c2,E]:=by
 refine ep underlying249 (by rw[u4];rfl) ?_;simp[wk,wm,G6];exact h
theorem wo {n:Nat} {ds:Lq} (h:Fits prog (n+1) 388 ds):∃e j c2 E,ds=[e,j,c2,E]/\Fits prog n 3 [e]/\Fits prog n 3 [j]/\Fits prog n 9 [c2]/\Fits prog n 3 [E]:=by
 simp only[Fits,underlying388]at h;obtain ⟨I,J⟩:=h;rw[RJ]at I;obtain ⟨e,M,rfl,g0⟩:=aq I;obtain ⟨j,O,rfl,g1⟩:=aq g0;obtain ⟨c2,S,rfl,g2⟩:=aq g1;obtain ⟨E,U,rfl,g3⟩:=aq g2;obtain rfl:=List.length_eq_zero_iff.1 g3;simp[wk,wm]at J;exact ⟨e,j,c2,E,rfl,J⟩
end T2
open Go Go.Vi Go.Proofs Go.Proofs.Tryz
namespace T2
set_option maxRecDepth 100000
set_option maxHeartbeats 4000000
variable {o:aM} (ho:aQ cu bw o)
def Jo (o:aM) (n:Nat):Prop:=∀ds,Fits prog n 31 ds->o.call 20 [.agg (ds.map .d),.agg (ds.map .d)] []=some ⟨.d (.bool true),[],[]⟩
def Jp (o:aM) (n:Nat):Prop:=∀ds,Fits prog n 37 ds->o.call 21 [.agg (ds.map .d),.agg (ds.map .d)] []=some ⟨.d (.bool true),[],[]⟩
def FY (o:aM) (n:Nat):Prop:=∀xs,Fits prog n 29 [.lst xs]->o.call 22 [.d (.lst xs),.d (.lst xs)] []=some ⟨.d (.bool true),[],[]⟩
def Dj (o:aM) (n:Nat):Prop:=∀ds,Fits prog n 68 ds->o.call 40 [.agg (ds.map .d),.agg (ds.map .d)] []=some ⟨.d (.bool true),[],[]⟩
def Dk (o:aM) (n:Nat):Prop:=∀xs,Fits prog n 71 [.lst xs]->o.call 41 [.d (.lst xs),.d (.lst xs)] []=some ⟨.d (.bool true),[],[]⟩
def FZ (o:aM) (n:Nat):Prop:=∀xs,Fits prog n 79 [.lst xs]->o.call 47 [.d (.lst xs),.d (.lst xs)] []=some ⟨.d (.bool true),[],[]⟩
def NT (o:aM) (n:Nat):Prop:=∀xs,Fits prog n 34 [.lst xs]->o.call 92 [.d (.lst xs),.d (.lst xs)] []=some ⟨.d (.bool true),[],[]⟩
def Jq (o:aM) (n:Nat):Prop:=∀xs,Fits prog n 35 [.lst xs]->o.call 93 [.d (.lst xs),.d (.lst xs)] []=some ⟨.d (.bool true),[],[]⟩
def F8 (o:aM) (n:Nat):Prop:=∀ds,Fits prog n 158 ds->o.call 118 [.agg (ds.map .d),.agg (ds.map .d)] []=some ⟨.d (.bool true),[],[]⟩
def Jr (o:aM) (n:Nat):Prop:=∀ds,Fits prog n 120 ds->o.call 121 [.agg (ds.map .d),.agg (ds.map .d)] []=some ⟨.d (.bool true),[],[]⟩
def RK (o:aM) (n:Nat):Prop:=∀ds,Fits prog n 226 ds->o.call 182 [.agg (ds.map .d),.agg (ds.map .d)] []=some ⟨.d (.bool true),[],[]⟩
def NU (o:aM) (n:Nat):Prop:=∀ds,Fits prog n 249 ds->o.call 183 [.agg (ds.map .d),.agg (ds.map .d)] []=some ⟨.d (.bool true),[],[]⟩
def Js (o:aM) (n:Nat):Prop:=∀xs,Fits prog n 216 [.lst xs]->o.call 280 [.d (.lst xs),.d (.lst xs)] []=some ⟨.d (.bool true),[],[]⟩
def NV (o:aM) (n:Nat):Prop:=∀ds,Fits prog n 224 ds->o.call 345 [.agg (ds.map .d),.agg (ds.map .d)] []=some ⟨.d (.bool true),[],[]⟩
def kL (o:aM) (n:Nat):Prop:=Jo o n/\Jp o n/\FY o n/\Dj o n/\Dk o n/\FZ o n/\NT o n/\Jq o n/\F8 o n/\Jr o n/\RK o n/\NU o n/\Js o n/\NV o n
include ho
theorem eq_int (a:Int):o.cmp .neq a a=false:=by rw[ho.cmp];simp[rV]
theorem m9 (s:By):o.eZ .neq s s=false:=by rw[ho.eZ];simp[rC]
theorem Dl (a:Int):o.cmp .lss a a=false:=by rw[ho.cmp];simp[rV]
theorem xQ {a b:Int} (h:a<b):o.cmp .lss a b=true:=by rw[ho.cmp];simp[rV,h]
theorem inc {a b:Int} (e:0<=a) (h:a<b) (j:b<=9223372036854775807):o.ar .add .i64 a 1=a+1:=by rw[ho.ar];simp only[HS];exact wF (by omega) (by omega)
theorem f_ (xs:Lq) (k:Int) (x:D) (e:0<=k) (h:xs[k.toNat]? =some x):o.cF xs k=some x:=by rw[ho.cF];simp[Ag,h,e]
theorem Pz {n:Nat} (M:kL o n):Jo o (n+1):=by
 intro ds h;have q:=h;obtain ⟨V,a0,a1,a3,rfl,E,I,J,j⟩:=Jc h;obtain ⟨x0,e,w0⟩:=fits_int underlying3 E;injection e with e;subst e;obtain ⟨x1,e,w1⟩:=fits_int underlying3 I;injection e with e;subst e;obtain ⟨x2,e,w2⟩:=bX underlying9 J;injection e with e;subst e;have O:=j;obtain ⟨S,m3,a4,e,w3,v3⟩:=bF underlying29 j;injection e with e;subst e;have U:=(M.2.2.1) S O;refine ho.aj ?_
 cbv
 repeat ((first | rw[eq_int ho] | rw[m9 ho] | rw[U]);(try cbv))
theorem PA {n:Nat} (I:kL o n):Jp o (n+1):=by
 intro ds h;have q:=h;obtain ⟨a0,a1,rfl,j,E⟩:=Pn h;have J:=j;obtain ⟨M,m0,a3,e,w0,v0⟩:=bF underlying34 j;injection e with e;subst e;have O:=(I.2.2.2.2.2.2.1) M J;have S:=E;obtain ⟨U,m1,a4,e,w1,v1⟩:=bF underlying35 E;injection e with e;subst e;have V:=(I.2.2.2.2.2.2.2.1) U S;refine ho.aj ?_
 cbv
 repeat ((first | rw[eq_int ho] | rw[m9 ho] | rw[O] | rw[V]);(try cbv))
theorem G8 {n t e kk k key:Nat} {F:Lq->Int->St} {X:St} (U:prog.underlying t=some (.slice e)) (V:cV prog e=true) (hD:∀ds,Fits prog n e ds->o.call kk [.agg (ds.map .d),.agg (ds.map .d)] []=Ar (Ab true))
  (c:∀xs N,o.len xs=N->o.cmp .neq N N=false->o.loop key (F xs 0)=some (.exit 0,X)->o.call k [Al xs,Al xs] []=Ar (Ab true))
  (l1:∀xs N,o.len xs=N->o.cmp .lss N N=false->o.loop key (F xs N)=some (.exit 0,X))
  (l2:∀xs N i j x,(∃m,Fits prog (m+1) e x)->o.len xs=N->o.cmp .lss i N=true->o.cF xs i=some (.agg x)->o.call kk [.agg (x.map .d),.agg (x.map .d)] []=Ar (Ab true)->o.ar .add .i64 i 1=j->o.loop key (F xs j)=some (.exit 0,X)->o.loop key (F xs i)=some (.exit 0,X)):∀xs,Fits prog (n+1) t [.lst xs]->o.call k [Al xs,Al xs] []=Ar (Ab true):=by
 intro xs h;obtain ⟨ys,m,em,E,w,v⟩:=bF U h;injection E with E;injection E with E;subst E;injection em with em;subst em;obtain ⟨N,hN,I⟩:∃N:Int,N=xs.length/\o.len xs=N:=⟨_,rfl,ho.len xs⟩
 have hw:N<=9223372036854775807:=by unfold maxLen at w;omega
 have loop:∀(m:Nat) (i:Int),0<=i->i+m=N->o.loop key (F xs i)=some (.exit 0,X):=by
  intro m;induction m with
  | zero=>
   intro i J h;obtain rfl:i=N:=by omega
   exact l1 xs i I (Dl ho i)
  | succ m ih=>
   intro i J h;obtain ⟨x,O⟩:∃x,xs[i.toNat]? =some x:=⟨_,bA (by omega)⟩
   obtain ⟨M,S⟩:=v x (List.mem_of_getElem? O);rw[V]at S;have h3:o.cF xs i=some (.agg x.cells):=by rw[f_ ho xs i _ J O,<-fK S]
   have hf:∃m,Fits prog (m+1) e x.cells:=by
    cases n with
    | zero=>simp[Fits]at M
    | succ n=>exact ⟨n,M⟩
   exact l2 xs N i (i+1) _ hf I (xQ ho (by omega)) h3 (hD _ M) (inc ho J (show i<N by omega) hw) (ih (i+1) (by omega) (by omega))
 exact c xs N I (eq_int ho N) (loop xs.length 0 (Int.le_refl _) (by omega))
theorem L9 {n:Nat} (j:kL o n):FY o (n+1):=G8 ho (key:=2200) (F:=λxs i=>⟨Al xs::Al xs::U::U::U::Ai i::Ky,uW⟩) (X:=⟨QJ,uW⟩) underlying29 (by unfold cV;rw[underlying31]) j.1
 (λ_ _ e q l=>ho.aj (by cbv;repeat ((first | rw[e] | rw[q] | rw[l]);(try cbv))))
 (λ_ _ e q=>ho.aB (by cbv;repeat ((first | rw[e] | rw[q]);(try cbv))))
 (λ_ _ _ _ _ ⟨_,E⟩ e I h3 hc h4 l=>by obtain ⟨_,_,_,_,rfl,_⟩:=Jc E;simp only[List.map]at hc;exact ho.aB (by cbv;repeat ((first | rw[e] | rw[I] | rw[h3] | rw[hc] | rw[h4] | exact l);(try cbv))))
theorem Jt {n:Nat} (E:kL o n):Dj o (n+1):=by
 intro ds h;have q:=h;obtain ⟨a0,a1,a3,a4,a5,a6,a7,a8,a9,rfl,I,J,M,O,S,j⟩:=Po h;obtain ⟨x0,e,w0⟩:=fits_int underlying3 I;injection e with e;subst e;obtain ⟨x1,e,w1⟩:=bX underlying9 J;injection e with e;subst e;obtain ⟨x2,e,w2⟩:=bX underlying9 M;injection e with e;subst e;obtain ⟨x3,e,w3⟩:=fits_int underlying3 O;injection e with e;subst e;have U:=(E.1) _ S;simp only[List.map]at U;have V:=j;obtain ⟨x5,m5,aa,e,w5,v5⟩:=bF underlying29 j;injection e with e;subst e;have q5:=(E.2.2.1) x5 V;refine ho.aj ?_
 cbv
 repeat ((first | rw[eq_int ho] | rw[m9 ho] | rw[U] | rw[q5]);(try cbv))
theorem Ju {n:Nat} (j:kL o n):Dk o (n+1):=G8 ho (key:=4100) (F:=λxs i=>⟨Al xs::Al xs::U::U::U::Ai i::Ky,uW⟩) (X:=⟨QJ,uW⟩) underlying71 (by unfold cV;rw[underlying158]) j.2.2.2.2.2.2.2.2.1
 (λ_ _ e q l=>ho.aj (by cbv;repeat ((first | rw[e] | rw[q] | rw[l]);(try cbv))))
 (λ_ _ e q=>ho.aB (by cbv;repeat ((first | rw[e] | rw[q]);(try cbv))))
 (λ_ _ _ _ _ ⟨_,E⟩ e I h3 hc h4 l=>by obtain ⟨_,_,_,_,_,_,_,rfl,_⟩:=FU E;simp only[List.map]at hc;exact ho.aB (by cbv;repeat ((first | rw[e] | rw[I] | rw[h3] | rw[hc] | rw[h4] | exact l);(try cbv))))
theorem L_ {n:Nat} (j:kL o n):FZ o (n+1):=G8 ho (key:=4700) (F:=λxs i=>⟨Al xs::Al xs::U::U::U::Ai i::Ky,uW⟩) (X:=⟨QJ,uW⟩) underlying79 (by unfold cV;rw[underlying120]) j.2.2.2.2.2.2.2.2.2.1
 (λ_ _ e q l=>ho.aj (by cbv;repeat ((first | rw[e] | rw[q] | rw[l]);(try cbv))))
 (λ_ _ e q=>ho.aB (by cbv;repeat ((first | rw[e] | rw[q]);(try cbv))))
 (λ_ _ _ _ _ ⟨_,E⟩ e I h3 hc h4 l=>by obtain ⟨_,_,_,_,_,_,_,_,rfl,_⟩:=FR E;simp only[List.map]at hc;exact ho.aB (by cbv;repeat ((first | rw[e] | rw[I] | rw[h3] | rw[hc] | rw[h4] | exact l);(try cbv))))
theorem RL {n:Nat} (j:kL o n):NT o (n+1):=G8 ho (key:=9200) (F:=λxs i=>⟨Al xs::Al xs::U::U::U::Ai i::Ky,uW⟩) (X:=⟨QJ,uW⟩) underlying34 (by unfold cV;rw[underlying226]) j.2.2.2.2.2.2.2.2.2.2.1
 (λ_ _ e q l=>ho.aj (by cbv;repeat ((first | rw[e] | rw[q] | rw[l]);(try cbv))))
 (λ_ _ e q=>ho.aB (by cbv;repeat ((first | rw[e] | rw[q]);(try cbv))))
 (λ_ _ _ _ _ ⟨_,E⟩ e I h3 hc h4 l=>by obtain ⟨_,_,_,_,rfl,_⟩:=FW E;simp only[List.map]at hc;exact ho.aB (by cbv;repeat ((first | rw[e] | rw[I] | rw[h3] | rw[hc] | rw[h4] | exact l);(try cbv))))
theorem PB {n:Nat} (j:kL o n):Jq o (n+1):=G8 ho (key:=9300) (F:=λxs i=>⟨Al xs::Al xs::U::U::U::Ai i::Ky,uW⟩) (X:=⟨QJ,uW⟩) underlying35 (by unfold cV;rw[underlying249]) j.2.2.2.2.2.2.2.2.2.2.2.1
 (λ_ _ e q l=>ho.aj (by cbv;repeat ((first | rw[e] | rw[q] | rw[l]);(try cbv))))
 (λ_ _ e q=>ho.aB (by cbv;repeat ((first | rw[e] | rw[q]);(try cbv))))
 (λ_ _ _ _ _ ⟨_,E⟩ e I h3 hc h4 l=>by obtain ⟨_,_,_,_,rfl,_⟩:=FX E;simp only[List.map]at hc;exact ho.aB (by cbv;repeat ((first | rw[e] | rw[I] | rw[h3] | rw[hc] | rw[h4] | exact l);(try cbv))))
theorem Ma {n:Nat} (j:kL o n):F8 o (n+1):=by
 intro ds h;have q:=h;obtain ⟨a0,a1,a3,a4,a5,a6,a7,rfl,E,I,J,M,O⟩:=FU h;obtain ⟨x0,e,w0⟩:=bX underlying9 E;injection e with e;subst e;obtain ⟨x1,e,w1⟩:=fits_int underlying3 I;injection e with e;subst e;have S:=(j.2.1) _ J;simp only[List.map]at S;obtain ⟨U,e⟩:=fits_bool underlying4 M;injection e with e;subst e;have V:(U !=U)=false:=by simp
 have q4:=(j.2.1) _ O;simp only[List.map]at q4;refine ho.aj ?_
 cbv
 repeat ((first | rw[eq_int ho] | rw[m9 ho] | rw[S] | rw[V] | rw[q4]);(try cbv))
theorem PD {n:Nat} (e:kL o n):Jr o (n+1):=by
 intro ds h;have q:=h;obtain ⟨M,O,S,U,V,a0,a1,a3,rfl,j,E⟩:=FR h;have I:=(e.1) _ j;simp only[List.map]at I;have J:=(e.1) _ E;simp only[List.map]at J;refine ho.aj ?_
 cbv
 repeat ((first | rw[eq_int ho] | rw[m9 ho] | rw[I] | rw[J]);(try cbv))
theorem SW {n:Nat} (M:kL o n):RK o (n+1):=by
 intro ds h;have q:=h;obtain ⟨V,a0,a1,a3,rfl,E,I,J,j⟩:=FW h;obtain ⟨x0,e,w0⟩:=bX underlying9 E;injection e with e;subst e;obtain ⟨x1,e,w1⟩:=fits_int underlying3 I;injection e with e;subst e;obtain ⟨x2,e,w2⟩:=fits_int underlying3 J;injection e with e;subst e;have O:=j;obtain ⟨S,m3,a4,e,w3,v3⟩:=bF underlying216 j;injection e with e;subst e;have U:=(M.2.2.2.2.2.2.2.2.2.2.2.2.1) S O;refine ho.aj ?_
 cbv
 repeat ((first | rw[eq_int ho] | rw[m9 ho] | rw[U]);(try cbv))
theorem RM {n:Nat} (M:kL o n):NU o (n+1):=by
 intro ds h;have q:=h;obtain ⟨V,a0,a1,a3,rfl,E,I,J,j⟩:=FX h;obtain ⟨x0,e,w0⟩:=fits_int underlying3 E;injection e with e;subst e;obtain ⟨x1,e,w1⟩:=fits_int underlying3 I;injection e with e;subst e;obtain ⟨x2,e,w2⟩:=bX underlying9 J;injection e with e;subst e;have O:=j;obtain ⟨S,m3,a4,e,w3,v3⟩:=bF underlying35 j;injection e with e;subst e;have U:=(M.2.2.2.2.2.2.2.1) S O;refine ho.aj ?_
 cbv
 repeat ((first | rw[eq_int ho] | rw[m9 ho] | rw[U]);(try cbv))
theorem PE {n:Nat} (j:kL o n):Js o (n+1):=G8 ho (key:=28000) (F:=λxs i=>⟨Al xs::Al xs::U::U::U::Ai i::Ky,uW⟩) (X:=⟨QJ,uW⟩) underlying216 (by unfold cV;rw[underlying224]) j.2.2.2.2.2.2.2.2.2.2.2.2.2
 (λ_ _ e q l=>ho.aj (by cbv;repeat ((first | rw[e] | rw[q] | rw[l]);(try cbv))))
 (λ_ _ e q=>ho.aB (by cbv;repeat ((first | rw[e] | rw[q]);(try cbv))))
 (λ_ _ _ _ _ ⟨_,E⟩ e I h3 hc h4 l=>by obtain ⟨_,_,_,_,rfl,_⟩:=FV E;simp only[List.map]at hc;exact ho.aB (by cbv;repeat ((first | rw[e] | rw[I] | rw[h3] | rw[hc] | rw[h4] | exact l);(try cbv))))
theorem RN {n:Nat} (V:kL o n):NV o (n+1):=by
 intro ds h;have q:=h;obtain ⟨M,O,S,U,rfl,j,E,I,J⟩:=FV h;obtain ⟨x0,e,w0⟩:=fits_int underlying3 j;injection e with e;subst e;obtain ⟨x1,e,w1⟩:=fits_int underlying3 E;injection e with e;subst e;obtain ⟨x2,e,w2⟩:=bX underlying9 I;injection e with e;subst e;obtain ⟨x3,e,w3⟩:=fits_int underlying3 J;injection e with e;subst e;refine ho.aj ?_
 cbv
 repeat ((first | rw[eq_int ho] | rw[m9 ho]);(try cbv))
theorem Dm:∀n,kL o n
 | 0=>by
  unfold kL;refine ⟨?_,?_,?_,?_,?_,?_,?_,?_,?_,?_,?_,?_,?_,?_⟩<;>(intro x h;simp[Fits]at h)
 | n+1=>have e:=Dm n;⟨Pz ho e,PA ho e,L9 ho e,Jt ho e,Ju ho e,L_ ho e,RL ho e,PB ho e,Ma ho e,PD ho e,SW ho e,RM ho e,PE ho e,RN ho e⟩
end T2
open Go Go.Vi Go.Proofs Go.Proofs.Tryz
namespace T2
set_option maxRecDepth 100000
set_option maxHeartbeats 4000000
variable {o:aM} (ho:aQ cu bw o)
theorem bO {P:Program} {n:Nat} {t:TypeId} {ds:Lq} (e:(match P.underlying t with | some .bool=>true | some (.int _)=>true | some .string=>true | _=>false)=true) (h:Fits P n t ds):Own P n t ds:=by
 cases n with
 | zero=>simp[Fits]at h
 | succ n=>
  unfold Fits at h;unfold Own;split at h<;>first
   | (rename_i j;rw[j]at e;first | (cases e;done) | exact h | (rw[j];exact h))
   | exact h.elim
def Jv (o:aM) (n:Nat):Prop:=∀ds,Fits prog n 25 ds->kN 1048576 ds->∃(E e I j:Lq),ds=[.lst E,.lst I]/\o.call 17 [.agg (ds.map .d)] []=some ⟨.agg [.arr (0,0) (226,4) none true,.arr (0,1) (249,4) none true],[],[some (.orows (226,4) e),some (.orows (249,4) j)]⟩/\Own prog n 37 [.own (226,4) e,.own (249,4) j]/\aS e=E/\aS j=I
def Dn (o:aM) (n:Nat):Prop:=∀ds,Fits prog n 64 ds->kN 1048576 ds->∃(e:Int) (j c2:By) (E I J:Int) (M:By) (U O V S:Lq),ds=[.int .i64 e,.str j,.str c2,.int .i64 E,.int .i64 I,.int .i64 J,.str M,.lst U,.lst V]/\o.call 38 [.agg (ds.map .d)] []=some ⟨.agg [.d (.int .i64 e),.d (.str j),.d (.str c2),.d (.int .i64 E),.d (.int .i64 I),.d (.int .i64 J),.d (.str M),.arr (0,0) (31,4) none true,.arr (0,1) (31,4) none true],[],[some (.orows (31,4) O),some (.orows (31,4) S)]⟩/\Own prog n 68 [.int .i64 e,.str j,.str c2,.int .i64 E,.int .i64 I,.int .i64 J,.str M,.own (31,4) O,.own (31,4) S]/\aS O=U/\aS S=V
def Jw (o:aM) (n:Nat):Prop:=∀ds,Fits prog n 62 ds->kN 1048576 ds->∃(e j:Int) (c2:By) (I E:Lq),ds=[.int .i64 e,.int .i64 j,.str c2,.lst I]/\o.call 88 [.agg (ds.map .d)] []=some ⟨.agg [.d (.int .i64 e),.d (.int .i64 j),.d (.str c2),.arr (0,0) (31,4) none true],[],[some (.orows (31,4) E)]⟩/\Own prog n 31 [.int .i64 e,.int .i64 j,.str c2,.own (31,4) E]/\aS E=I
def F9 (o:aM) (n:Nat):Prop:=∀ds,Fits prog n 152 ds->kN 1048576 ds->∃(e:By) (j:Int) (S E U I:Lq) (J:Bool) (V M x6 O:Lq),ds=[.str e,.int .i64 j,.lst S,.lst U,.bool J,.lst V,.lst x6]/\o.call 114 [.agg (ds.map .d)] []=some ⟨.agg [.d (.str e),.d (.int .i64 j),.arr (0,0) (226,4) none true,.arr (0,1) (249,4) none true,.d (.bool J),.arr (0,2) (226,4) none true,.arr (0,3) (249,4) none true],[],[some (.orows (226,4) E),some (.orows (249,4) I),some (.orows (226,4) M),some (.orows (249,4) O)]⟩/\Own prog n 158 [.str e,.int .i64 j,.own (226,4) E,.own (249,4) I,.bool J,.own (226,4) M,.own (249,4) O]/\aS E=S/\aS I=U/\aS M=V/\aS O=x6
def RP (o:aM) (n:Nat):Prop:=∀ds,Fits prog n 242 ds->kN 1048576 ds->∃(e:By) (j c2:Int) (I E:Lq),ds=[.str e,.int .i64 j,.int .i64 c2,.lst I]/\o.call 178 [.agg (ds.map .d)] []=some ⟨.agg [.d (.str e),.d (.int .i64 j),.d (.int .i64 c2),.arr (0,0) (224,4) none true],[],[some (.orows (224,4) E)]⟩/\Own prog n 226 [.str e,.int .i64 j,.int .i64 c2,.own (224,4) E]/\aS E=I
def NW (o:aM) (n:Nat):Prop:=∀ds,Fits prog n 245 ds->kN 1048576 ds->∃(e j:Int) (c2:By) (I E:Lq),ds=[.int .i64 e,.int .i64 j,.str c2,.lst I]/\o.call 179 [.agg (ds.map .d)] []=some ⟨.agg [.d (.int .i64 e),.d (.int .i64 j),.d (.str c2),.arr (0,0) (249,4) none true],[],[some (.orows (249,4) E)]⟩/\Own prog n 249 [.int .i64 e,.int .i64 j,.str c2,.own (249,4) E]/\aS E=I
def NX (o:aM) (n:Nat):Prop:=∀ds,Fits prog n 388 ds->kN 1048576 ds->∃(e j:Int) (c2:By) (E:Int),ds=[.int .i64 e,.int .i64 j,.str c2,.int .i64 E]/\o.call 342 [.agg (ds.map .d)] []=some ⟨.agg [.d (.int .i64 e),.d (.int .i64 j),.d (.str c2),.d (.int .i64 E)],[],[]⟩/\Own prog n 224 [.int .i64 e,.int .i64 j,.str c2,.int .i64 E]/\True
def KA (o:aM) (n t j e w:Nat) (k:FuncId):Prop:=∀xs,Fits prog n t [.lst xs]->Sm 1048576 (.lst xs)->∃ys,o.call k [.d (.lst xs)] []=some ⟨.arr (0,0) (e,w) none true,[],[some (.orows (e,w) ys)]⟩/\aS ys=xs/\Own prog n j [.own (e,w) ys]
def lJ (o:aM) (n:Nat):Prop:=Jv o n/\KA o n 26 29 31 4 18/\KA o n 60 71 158 7 37/\Dn o n/\KA o n 22 34 226 4 86/\KA o n 23 35 249 4 87/\Jw o n/\F9 o n/\RP o n/\NW o n/\KA o n 240 216 224 4 275/\NX o n
include ho
theorem toCode {n:Nat} (J:lJ o n):Jv o (n+1):=by
 intro ds h I;obtain ⟨a0,a1,rfl,j,E⟩:=Es h;simp only[kN]at I;have S:=j;obtain ⟨M,m0,a3,e,w0,v0⟩:=bF underlying22 j;injection e with e;subst e;obtain ⟨U,V,f0,g0⟩:=(J.2.2.2.2.1) M S (by simp[I]);have k1:=E;obtain ⟨O,m1,a4,e,w1,v1⟩:=bF underlying23 E;injection e with e;subst e;obtain ⟨y1,q1,f1,g1⟩:=(J.2.2.2.2.2.1) O k1 (by simp[I]);exact ⟨M,U,O,y1,rfl,ho.aj (by cbv;rw[V];cbv;rw[q1];cbv),LZ ⟨g0,g1⟩,f0,f1⟩
omit ho in
theorem RQ {d:Lq} (h:d.length=7):∃a b c e f g i,d=[a,b,c,e,f,g,i]:=by match d,h with | [a,b,c,e,f,g,i],_=>exact ⟨a,b,c,e,f,g,i,rfl⟩
omit ho in
theorem Mb {d:Lq} (h:d.length=4):∃a b c e,d=[a,b,c,e]:=by match d,h with | [a,b,c,e],_=>exact ⟨a,b,c,e,rfl⟩
theorem G9 {n t t2 e S w key b:Nat} {Q:Lq->Lq->Prop} {zc:Lq} {F:Lq->Lq->Int->St} {X:Lq->St} (hu:prog.underlying t=some (.slice e)) (ha:cV prog e=true) (a1:prog.underlying t2=some (.slice S)) (a3:prog.cellsOf S=w) (a4:cV prog S=true) (U:zc.length=w)
  (hf:∀N:Int,0<=N->N<=1048576->o.fP b N=true) (hp:∀N,o.flat (o.rm N (.agg zc))=true)
  (c:∀xs zs N,o.len xs=N->o.cmp .eql N N=true->o.fP b N=true->o.flat (o.rm N (.agg zc))=true->o.loop key (F xs (o.rm N (.agg zc)) 0)=some (.exit 0,X zs)->Q xs zs)
  (l1:∀xs N Y,o.len xs=N->o.cmp .lss N N=false->o.loop key (F xs Y N)=some (.exit 0,X Y))
  (l2:∀x,Fits prog n e x->kN 1048576 x->∃y,aS y=x/\Own prog n S y/\y.length=w/\∀xs N i j Y d z,o.len xs=N->o.cmp .lss i N=true->o.cF xs i=some (.agg x)->o.cF Y i=some (.agg d)->d.length=w->o.ar .add .i64 i 1=j->o.loop key (F xs (o.set Y i (.agg y)) j)=some z->o.loop key (F xs Y i)=some z):∀xs,Fits prog (n+1) t [.lst xs]->Sm 1048576 (.lst xs)->∃ys,Q xs ys/\aS ys=xs/\Own prog (n+1) t2 [.own (S,w) ys]:=by
 intro xs h hs;obtain ⟨ys,m,em,e_,wl,v⟩:=bF hu h;injection e_ with e_;injection e_ with e_;subst e_;injection em with em;subst em;simp only[Sm,kX]at hs;obtain ⟨N,hN,hn⟩:∃N:Int,N=xs.length/\o.len xs=N:=⟨_,rfl,ho.len xs⟩
 have loop:∀(m:Nat) (i:Int) (Y:Lq),0<=i->i+m=N->Y.length=xs.length->(∀y∈Y,∃d,y= .agg d/\d.length=w)->∃zs,o.loop key (F xs Y i)=some (.exit 0,X zs)/\zs.length=xs.length/\(∀j,j<i.toNat->zs[j]? =Y[j]?)/\∀j,i.toNat<=j->∀x z,xs[j]? =some x->zs[j]? =some z->bB z=x/\Own prog n S z.cells/\z.many=true:=by
  intro m;induction m with
  | zero=>
   intro i Y h0 h I hd;obtain rfl:i=N:=by omega
   exact ⟨Y,l1 xs i Y hn (Dl ho i),I,λ_ _=>rfl,λj J x z hx _=>by have:=(ax.1 hx).1;omega⟩
  | succ m ih=>
   intro i Y h0 h I hd;obtain ⟨x,O⟩:∃x,xs[i.toNat]? =some x:=⟨_,bA (by omega)⟩
   obtain ⟨y,a0⟩:∃y,Y[i.toNat]? =some y:=⟨_,bA (by omega)⟩
   obtain ⟨f1,f2⟩:=v x (List.mem_of_getElem? O);rw[ha]at f2;obtain ⟨y',z1,z2,z3,st⟩:=l2 x.cells f1 (kf (hs.2 x (List.mem_of_getElem? O)));obtain ⟨d,rfl,a5⟩:=hd y (List.mem_of_getElem? a0);obtain ⟨zs,i1,V,i3,i4⟩:=ih (i+1) (o.set Y i (.agg y')) (by omega) (by omega) (by rw[ho.set];simpa using I) (by
    rw[ho.set];intro y I;rcases List.mem_or_eq_of_mem_set I with I | rfl
    ·exact hd y I
    exact ⟨_,rfl,z3⟩)
   refine ⟨zs,st xs N i (i+1) Y d _ hn (xQ ho (by omega)) (by rw[f_ ho xs i _ h0 O,<-fK f2]) (f_ ho Y i _ h0 a0) a5 (inc ho h0 (show i<N by omega) (by omega)) i1,V,λj J=>by rw[i3 j (by omega),ho.set,List.getElem?_set_ne (by omega)],λj J x' z E M=> ?_⟩;by_cases a6:j=i.toNat
   ·subst a6;rw[O]at E;injection E with E;subst E;rw[i3 _ (by omega),ho.set,List.getElem?_set_self (by omega)]at M;injection M with M;subst M;exact ⟨by rw[fK f2];simp only[bB,z1,D.cells],z2,rfl⟩
   exact i4 j (by omega) x' z E M
 obtain ⟨zs,i1,V,i3,i4⟩:=loop xs.length 0 (o.rm N (.agg zc)) (Int.le_refl _) (by omega) (by rw[ho.rm];simp;omega) (by rw[ho.rm];intro y I;rw[(List.mem_replicate.1 I).2];exact ⟨_,rfl,U⟩);refine ⟨zs,c xs zs N hn (by rw[ho.cmp];simp[rV]) (hf N (by omega) (by omega)) (hp N) i1,?_,?_⟩
 ·rw[gZ];apply List.ext_getElem?;intro j;rw[List.getElem?_map];cases J:xs[j]? with
  | none=>rw[List.getElem?_eq_none (by rw[V];exact List.getElem?_eq_none_iff.1 J)];rfl
  | some x=>
   obtain ⟨z,U⟩:∃z,zs[j]? =some z:=⟨_,bA (by rw[V];exact (ax.1 J).1)⟩
   rw[U,Option.map_some,(i4 j (by simp) x z J U).1]
 refine lX a1 a3 (by rw[V];exact wl) λz U=> ?_
 obtain ⟨j,J⟩:=List.getElem?_of_mem U;obtain ⟨x,E⟩:∃x,xs[j]? =some x:=⟨_,bA (by rw[<-V];exact (ax.1 J).1)⟩
 obtain ⟨_,r2,r3⟩:=i4 j (by simp) x z E J;exact ⟨r2,by rw[r3,a4]⟩
theorem Mc {n:Nat} (J:lJ o n):KA o (n+1) 26 29 31 4 18:=G9 ho (key:=1800) (b:=56) (zc:=[(.int .i64 0),(.int .i64 0),(.str ⟨#[]⟩),.lst []]) (F:=λxs Y i=>⟨Al xs::U::U:: .arr (7,0) (31,4) none true::Ai i::QH,[]::[]::[]::[]::[]::[]::[]::[Oq Y]::HW⟩) (X:=λY=>⟨U::U::U:: .arr (7,0) (31,4) none true::QI,[]::[]::[]::[]::[]::[]::[]::[Oq Y]::HW⟩) underlying26 (by unfold cV;rw[underlying62]) underlying29 oV (by unfold cV;rw[underlying31]) rfl
 (λN _ _=>by rw[ho.fP];simp;omega) (λN=>by rw[ho.flat,ho.rm];simp[dO])
 (λ_ _ _ e E h3 h4 l=>ho.aj (by cbv;repeat ((first | rw[e] | rw[E] | rw[h3] | rw[h4] | rw[l]);(try cbv))))
 (λ_ _ _ e h=>ho.aB (by cbv;rw[e];cbv;rw[h];cbv))
 (λx M O=>by
  obtain ⟨S,V,c2,x3,y3,rfl,hc,hw,I⟩:=J.2.2.2.2.2.2.1 x M O;simp only[List.map]at hc;exact ⟨[.int .i64 S,.int .i64 V,.str c2,.own (31,4) y3],by simp only[aS,bB,I],hw,rfl,λxs N i j Y d z e E h3 h5 hd h4 l=>by obtain ⟨_,_,_,_,rfl⟩:=Mb hd;exact ho.aB (by cbv;repeat ((first | rw[e] | rw[E] | rw[h3] | rw[hc] | rw[h5] | rw[h4] | exact l);(try cbv)))⟩)
theorem Jy {n:Nat} (S:lJ o n):KA o (n+1) 60 71 158 7 37:=G9 ho (key:=3700) (b:=128) (zc:=[(.str ⟨#[]⟩),(.int .i64 0),.lst [],.lst [],(.bool false),.lst [],.lst []]) (F:=λxs Y i=>⟨Al xs::U::U:: .arr (7,0) (158,7) none true::Ai i::QH,[]::[]::[]::[]::[]::[]::[]::[some (.orows (158,7) Y)]::HW⟩) (X:=λY=>⟨U::U::U:: .arr (7,0) (158,7) none true::QI,[]::[]::[]::[]::[]::[]::[]::[some (.orows (158,7) Y)]::HW⟩) underlying60 (by unfold cV;rw[underlying152]) underlying71 AA (by unfold cV;rw[underlying158]) rfl
 (λN _ _=>by rw[ho.fP];simp;omega) (λN=>by rw[ho.flat,ho.rm];simp[dO])
 (λ_ _ _ e E h3 h4 l=>ho.aj (by cbv;repeat ((first | rw[e] | rw[E] | rw[h3] | rw[h4] | rw[l]);(try cbv))))
 (λ_ _ _ e h=>ho.aB (by cbv;rw[e];cbv;rw[h];cbv))
 (λx V hs=>by
  obtain ⟨c0,c1,x2,y2,x3,y3,c4,x5,y5,x6,y6,rfl,hc,hw,I,J,M,O⟩:=S.2.2.2.2.2.2.2.1 x V hs;simp only[List.map]at hc;exact ⟨[.str c0,.int .i64 c1,.own (226,4) y2,.own (249,4) y3,.bool c4,.own (226,4) y5,.own (249,4) y6],by simp only[aS,bB,I,J,M,O],hw,rfl,λxs N i j Y d z e E h3 h5 hd h4 l=>by obtain ⟨_,_,_,_,_,_,_,rfl⟩:=RQ hd;exact ho.aB (by cbv;repeat ((first | rw[e] | rw[E] | rw[h3] | rw[hc] | rw[h5] | rw[h4] | exact l);(try cbv)))⟩)
theorem G_ {n:Nat} (S:lJ o n):∀xs,Fits prog (n+1) 60 [.lst xs]->Sm 1048576 (.lst xs)->∃ys,o.call 100037 [Al xs] []=Ar (Al (o.bE ys))/\aS ys=xs/\Own prog (n+1) 71 [.own (158,7) ys]:=G9 ho (key:=10003700) (b:=128) (zc:=[(.str ⟨#[]⟩),(.int .i64 0),.lst [],.lst [],(.bool false),.lst [],.lst []]) (F:=λxs Y i=>⟨Al xs::U::U:: .arr (7,0) (158,7) none true::Ai i::QH,[]::[]::[]::[]::[]::[]::[]::[some (.orows (158,7) Y)]::HW⟩) (X:=λY=>⟨U::U::U:: .arr (7,0) (158,7) none true::QI,[]::[]::[]::[]::[]::[]::[]::[some (.orows (158,7) Y)]::HW⟩) underlying60 (by unfold cV;rw[underlying152]) underlying71 AA (by unfold cV;rw[underlying158]) rfl
 (λN _ _=>by rw[ho.fP];simp;omega) (λN=>by rw[ho.flat,ho.rm];simp[dO])
 (λ_ _ _ e E h3 h4 l=>ho.aj (by cbv;repeat ((first | rw[e] | rw[E] | rw[h3] | rw[h4] | rw[l]);(try cbv))))
 (λ_ _ _ e h=>ho.aB (by cbv;rw[e];cbv;rw[h];cbv))
 (λx V hs=>by
  obtain ⟨c0,c1,x2,y2,x3,y3,c4,x5,y5,x6,y6,rfl,hc,hw,I,J,M,O⟩:=S.2.2.2.2.2.2.2.1 x V hs;simp only[List.map]at hc;exact ⟨[.str c0,.int .i64 c1,.own (226,4) y2,.own (249,4) y3,.bool c4,.own (226,4) y5,.own (249,4) y6],by simp only[aS,bB,I,J,M,O],hw,rfl,λxs N i j Y d z e E h3 h5 hd h4 l=>by obtain ⟨_,_,_,_,_,_,_,rfl⟩:=RQ hd;exact ho.aB (by cbv;repeat ((first | rw[e] | rw[E] | rw[h3] | rw[hc] | rw[h5] | rw[h4] | exact l);(try cbv)))⟩)
theorem Jz {n:Nat} (ih:lJ o n):Dn o (n+1):=by
 intro ds h O;obtain ⟨a4,a5,a6,a7,a8,a9,aa,ac,ae,rfl,j,E,I,J,a3,M⟩:=Et h;simp only[kN]at O;have k0:=j;obtain ⟨x0,e,w0⟩:=fits_int underlying3 j;injection e with e;subst e;have k1:=E;obtain ⟨x1,e,w1⟩:=bX underlying9 E;injection e with e;subst e;have k2:=I;obtain ⟨x2,e,w2⟩:=bX underlying9 I;injection e with e;subst e;have k3:=J;obtain ⟨x3,e,w3⟩:=fits_int underlying3 J;injection e with e;subst e;obtain ⟨S,U,V,a0,a1,e4,q4,g4,z4⟩:=(ih.2.2.2.2.2.2.1) _ a3 (by simp only[kN];simp[O]);simp only[List.cons.injEq,and_true]at e4;obtain ⟨rfl,rfl,rfl,rfl⟩:=e4;simp only[List.map]at q4;have k5:=M;obtain ⟨x5,m5,ag,e,w5,v5⟩:=bF underlying26 M;injection e with e;subst e;obtain ⟨y5,q5,f5,g5⟩:=(ih.2.1) x5 k5 (by simp[O]);exact ⟨x0,x1,x2,x3,S,U,V,a0,a1,x5,y5,rfl,ho.aj (by cbv;rw[q4];cbv;rw[q5];cbv),FQ ⟨(bO (by rw[underlying3]) k0),(bO (by rw[underlying9]) k1),(bO (by rw[underlying9]) k2),(bO (by rw[underlying3]) k3),g4,g5⟩,z4,f5⟩
theorem RR {n:Nat} (J:lJ o n):KA o (n+1) 22 34 226 4 86:=G9 ho (key:=8600) (b:=56) (zc:=[(.str ⟨#[]⟩),(.int .i64 0),(.int .i64 0),.lst []]) (F:=λxs Y i=>⟨Al xs::U::U:: .arr (7,0) (226,4) none true::Ai i::QH,[]::[]::[]::[]::[]::[]::[]::[some (.orows (226,4) Y)]::HW⟩) (X:=λY=>⟨U::U::U:: .arr (7,0) (226,4) none true::QI,[]::[]::[]::[]::[]::[]::[]::[some (.orows (226,4) Y)]::HW⟩) underlying22 (by unfold cV;rw[underlying242]) underlying34 xP (by unfold cV;rw[underlying226]) rfl
 (λN _ _=>by rw[ho.fP];simp;omega) (λN=>by rw[ho.flat,ho.rm];simp[dO])
 (λ_ _ _ e E h3 h4 l=>ho.aj (by cbv;repeat ((first | rw[e] | rw[E] | rw[h3] | rw[h4] | rw[l]);(try cbv))))
 (λ_ _ _ e h=>ho.aB (by cbv;rw[e];cbv;rw[h];cbv))
 (λx M O=>by
  obtain ⟨S,V,c2,x3,y3,rfl,hc,hw,I⟩:=J.2.2.2.2.2.2.2.2.1 x M O;simp only[List.map]at hc;exact ⟨[.str S,.int .i64 V,.int .i64 c2,.own (224,4) y3],by simp only[aS,bB,I],hw,rfl,λxs N i j Y d z e E h3 h5 hd h4 l=>by obtain ⟨_,_,_,_,rfl⟩:=Mb hd;exact ho.aB (by cbv;repeat ((first | rw[e] | rw[E] | rw[h3] | rw[hc] | rw[h5] | rw[h4] | exact l);(try cbv)))⟩)
theorem PF {n:Nat} (J:lJ o n):KA o (n+1) 23 35 249 4 87:=G9 ho (key:=8700) (b:=56) (zc:=[(.int .i64 0),(.int .i64 0),(.str ⟨#[]⟩),.lst []]) (F:=λxs Y i=>⟨Al xs::U::U:: .arr (7,0) (249,4) none true::Ai i::QH,[]::[]::[]::[]::[]::[]::[]::[some (.orows (249,4) Y)]::HW⟩) (X:=λY=>⟨U::U::U:: .arr (7,0) (249,4) none true::QI,[]::[]::[]::[]::[]::[]::[]::[some (.orows (249,4) Y)]::HW⟩) underlying23 (by unfold cV;rw[underlying245]) underlying35 u4 (by unfold cV;rw[underlying249]) rfl
 (λN _ _=>by rw[ho.fP];simp;omega) (λN=>by rw[ho.flat,ho.rm];simp[dO])
 (λ_ _ _ e E h3 h4 l=>ho.aj (by cbv;repeat ((first | rw[e] | rw[E] | rw[h3] | rw[h4] | rw[l]);(try cbv))))
 (λ_ _ _ e h=>ho.aB (by cbv;rw[e];cbv;rw[h];cbv))
 (λx M O=>by
  obtain ⟨S,V,c2,x3,y3,rfl,hc,hw,I⟩:=J.2.2.2.2.2.2.2.2.2.1 x M O;simp only[List.map]at hc;exact ⟨[.int .i64 S,.int .i64 V,.str c2,.own (249,4) y3],by simp only[aS,bB,I],hw,rfl,λxs N i j Y d z e E h3 h5 hd h4 l=>by obtain ⟨_,_,_,_,rfl⟩:=Mb hd;exact ho.aB (by cbv;repeat ((first | rw[e] | rw[E] | rw[h3] | rw[hc] | rw[h5] | rw[h4] | exact l);(try cbv)))⟩)
theorem PG {n:Nat} (S:lJ o n):Jw o (n+1):=by
 intro ds h M;obtain ⟨a0,a1,a3,a4,rfl,j,E,I,J⟩:=uj h;simp only[kN]at M;have U:=j;obtain ⟨V,e,w0⟩:=fits_int underlying3 j;injection e with e;subst e;have k1:=E;obtain ⟨x1,e,w1⟩:=fits_int underlying3 E;injection e with e;subst e;have k2:=I;obtain ⟨x2,e,w2⟩:=bX underlying9 I;injection e with e;subst e;have k3:=J;obtain ⟨O,m3,a5,e,w3,v3⟩:=bF underlying26 J;injection e with e;subst e;obtain ⟨y3,q3,f3,g3⟩:=(S.2.1) O k3 (by simp[M]);exact ⟨V,x1,x2,O,y3,rfl,ho.aj (by cbv;rw[q3];cbv),FP ⟨(bO (by rw[underlying3]) U),(bO (by rw[underlying3]) k1),(bO (by rw[underlying9]) k2),g3⟩,f3⟩
theorem toEntry {n:Nat} (ih:lJ o n):F9 o (n+1):=by
 intro ds h J;obtain ⟨a6,a7,a8,a9,aa,ac,ae,rfl,j,E,a4,I,a5⟩:=sV h;simp only[kN]at J;have k0:=j;obtain ⟨x0,e,w0⟩:=bX underlying9 j;injection e with e;subst e;have k1:=E;obtain ⟨x1,e,w1⟩:=fits_int underlying3 E;injection e with e;subst e;obtain ⟨M,O,S,U,e2,q2,g2,z2⟩:=(ih.1) _ a4 (by simp only[kN];simp[J]);simp only[List.cons.injEq,and_true]at e2;obtain ⟨rfl,rfl⟩:=e2;simp only[List.map]at q2;have k3:=I;obtain ⟨x3,e⟩:=fits_bool underlying4 I;injection e with e;subst e;obtain ⟨V,a0,a1,a3,e4,q4,g4,z4⟩:=(ih.1) _ a5 (by simp only[kN];simp[J]);simp only[List.cons.injEq,and_true]at e4;obtain ⟨rfl,rfl⟩:=e4;simp only[List.map]at q4;exact ⟨x0,x1,M,O,S,U,x3,V,a0,a1,a3,rfl,ho.aj (by cbv;rw[q2];cbv;rw[q4];cbv),Jf ⟨(bO (by rw[underlying9]) k0),(bO (by rw[underlying3]) k1),g2,(bO (by rw[underlying4]) k3),g4⟩,z2.1,z2.2,z4.1,z4.2⟩
theorem SX {n:Nat} (S:lJ o n):RP o (n+1):=by
 intro ds h M;obtain ⟨a0,a1,a3,a4,rfl,j,E,I,J⟩:=sW h;simp only[kN]at M;have U:=j;obtain ⟨V,e,w0⟩:=bX underlying9 j;injection e with e;subst e;have k1:=E;obtain ⟨x1,e,w1⟩:=fits_int underlying3 E;injection e with e;subst e;have k2:=I;obtain ⟨x2,e,w2⟩:=fits_int underlying3 I;injection e with e;subst e;have k3:=J;obtain ⟨O,m3,a5,e,w3,v3⟩:=bF underlying240 J;injection e with e;subst e;obtain ⟨y3,q3,f3,g3⟩:=(S.2.2.2.2.2.2.2.2.2.2.1) O k3 (by simp[M]);exact ⟨V,x1,x2,O,y3,rfl,ho.aj (by cbv;rw[q3];cbv),Jh ⟨(bO (by rw[underlying9]) U),(bO (by rw[underlying3]) k1),(bO (by rw[underlying3]) k2),g3⟩,f3⟩
theorem RT {n:Nat} (S:lJ o n):NW o (n+1):=by
 intro ds h M;obtain ⟨a0,a1,a3,a4,rfl,j,E,I,J⟩:=sX h;simp only[kN]at M;have U:=j;obtain ⟨V,e,w0⟩:=fits_int underlying3 j;injection e with e;subst e;have k1:=E;obtain ⟨x1,e,w1⟩:=fits_int underlying3 E;injection e with e;subst e;have k2:=I;obtain ⟨x2,e,w2⟩:=bX underlying9 I;injection e with e;subst e;have k3:=J;obtain ⟨O,m3,a5,e,w3,v3⟩:=bF underlying23 J;injection e with e;subst e;obtain ⟨y3,q3,f3,g3⟩:=(S.2.2.2.2.2.1) O k3 (by simp[M]);exact ⟨V,x1,x2,O,y3,rfl,ho.aj (by cbv;rw[q3];cbv),Ji ⟨(bO (by rw[underlying3]) U),(bO (by rw[underlying3]) k1),(bO (by rw[underlying9]) k2),g3⟩,f3⟩
theorem PI {n:Nat} (I:lJ o n):KA o (n+1) 240 216 224 4 275:=G9 ho (key:=27500) (b:=40) (zc:=[(.int .i64 0),(.int .i64 0),(.str ⟨#[]⟩),(.int .i64 0)]) (F:=λxs Y i=>⟨Al xs::U::U:: .arr (7,0) (224,4) none true::Ai i::QH,[]::[]::[]::[]::[]::[]::[]::[some (.orows (224,4) Y)]::HW⟩) (X:=λY=>⟨U::U::U:: .arr (7,0) (224,4) none true::QI,[]::[]::[]::[]::[]::[]::[]::[some (.orows (224,4) Y)]::HW⟩) underlying240 (by unfold cV;rw[underlying388]) underlying216 AB (by unfold cV;rw[underlying224]) rfl
 (λN _ _=>by rw[ho.fP];simp;omega) (λN=>by rw[ho.flat,ho.rm];simp[dO])
 (λ_ _ _ e E h3 h4 l=>ho.aj (by cbv;repeat ((first | rw[e] | rw[E] | rw[h3] | rw[h4] | rw[l]);(try cbv))))
 (λ_ _ _ e h=>ho.aB (by cbv;rw[e];cbv;rw[h];cbv))
 (λx J M=>by
  obtain ⟨O,S,c2,V,rfl,hc,hw,a0⟩:=I.2.2.2.2.2.2.2.2.2.2.2 x J M;simp only[List.map]at hc;exact ⟨[.int .i64 O,.int .i64 S,.str c2,.int .i64 V],by simp only[aS,bB],hw,rfl,λxs N i j Y d z e E h3 h5 hd h4 l=>by obtain ⟨_,_,_,_,rfl⟩:=Mb hd;exact ho.aB (by cbv;repeat ((first | rw[e] | rw[E] | rw[h3] | rw[hc] | rw[h5] | rw[h4] | exact l);(try cbv)))⟩)
theorem RU {n:Nat} (ih:lJ o n):NX o (n+1):=by
 intro ds h M;obtain ⟨a0,a1,a3,a4,rfl,j,E,I,J⟩:=wo h;simp only[kN]at M;have O:=j;obtain ⟨S,e,w0⟩:=fits_int underlying3 j;injection e with e;subst e;have U:=E;obtain ⟨V,e,w1⟩:=fits_int underlying3 E;injection e with e;subst e;have k2:=I;obtain ⟨x2,e,w2⟩:=bX underlying9 I;injection e with e;subst e;have k3:=J;obtain ⟨x3,e,w3⟩:=fits_int underlying3 J;injection e with e;subst e;exact ⟨S,V,x2,x3,rfl,ho.aj (by cbv),Jg ⟨(bO (by rw[underlying3]) O),(bO (by rw[underlying3]) U),(bO (by rw[underlying9]) k2),(bO (by rw[underlying3]) k3)⟩,trivial⟩
theorem pV:∀n,lJ o n
 | 0=>by
  unfold lJ;refine ⟨?_,?_,?_,?_,?_,?_,?_,?_,?_,?_,?_,?_⟩<;>(intro x h;simp[Fits]at h)
 | n+1=>have e:=pV n;⟨toCode ho e,Mc ho e,Jy ho e,Jz ho e,RR ho e,PF ho e,PG ho e,toEntry ho e,SX ho e,RT ho e,PI ho e,RU ho e⟩
end T2
namespace T2
open Go Go.Vi Go.Proofs Go.Proofs.Tryz
set_option maxRecDepth 100000
section
variable {o:aM} (ho:aQ cu bw o)
include ho
theorem BQ:∀(n:Nat) (ds:Lq),(Fits prog n 62 ds\/Fits prog n 245 ds)->kN 1048576 ds->Tm n (.agg ds):=by
 intro n;induction n using Nat.strongRecOn with
 | ind n U=>
  intro ds h I;cases n with
  | zero=>rcases h with h | h<;>simp[Fits]at h
  | succ n=>
   have key:∃k m s l,ds=[.int .i64 k,.int .i64 m,.str s,.lst l]/\(Fits prog n 26 [.lst l]\/Fits prog n 23 [.lst l]):=by
    rcases h with h | h
    ·obtain ⟨k,m,s,l,_,e,_⟩:=(pV ho (n+1)).2.2.2.2.2.2.1 ds h I;subst e;obtain ⟨V,c1,c2,c3,J,_,_,_,E⟩:=uj h;simp only[List.cons.injEq,and_true]at J;obtain ⟨rfl,rfl,rfl,rfl⟩:=J;exact ⟨k,m,s,l,rfl,.inl E⟩
    obtain ⟨k,m,s,l,_,e,_⟩:=(pV ho (n+1)).2.2.2.2.2.2.2.2.2.1 ds h I;subst e;obtain ⟨V,c1,c2,c3,J,_,_,_,E⟩:=sX h;simp only[List.cons.injEq,and_true]at J;obtain ⟨rfl,rfl,rfl,rfl⟩:=J;exact ⟨k,m,s,l,rfl,.inr E⟩
   obtain ⟨k,m,s,l,rfl,E⟩:=key;simp only[kN,Sm,kX]at I;refine ⟨k,m,s,l,rfl,by omega,by omega,λx O=> ?_⟩;cases n with
   | zero=>rcases E with h | h<;>simp[Fits]at h
   | succ n=>
    rcases E with E | E
    ·obtain ⟨ys,m',em,j,w,v⟩:=bF underlying26 E;injection j with j;injection j with j;subst j;injection em with em;subst em;obtain ⟨S,M⟩:=v x O;rw[show cV prog 62=true by unfold cV;rw[underlying62]]at M;rw[fK M];exact sK (U n (by omega) _ (.inl S) (kf (I.2.2.2.1.2 x O)))
    obtain ⟨ys,m',em,j,w,v⟩:=bF underlying23 E;injection j with j;injection j with j;subst j;injection em with em;subst em;obtain ⟨S,M⟩:=v x O;rw[show cV prog 245=true by unfold cV;rw[underlying245]]at M;rw[fK M];exact sK (U n (by omega) _ (.inr S) (kf (I.2.2.2.1.2 x O)))
theorem JI {n:Nat} {xs:Lq} (h:Fits prog n 26 [.lst xs]) (j:Sm 1048576 (.lst xs)):∀x∈xs,Tm n x:=by
 cases n with
 | zero=>simp[Fits]at h
 | succ n=>
  obtain ⟨ys,m',em,e,w,v⟩:=bF underlying26 h;injection e with e;injection e with e;subst e;injection em with em;subst em;simp only[Sm,kX]at j;intro x E;obtain ⟨J,I⟩:=v x E;rw[show cV prog 62=true by unfold cV;rw[underlying62]]at I;rw[fK I];exact sK (BQ ho n _ (.inl J) (kf (j.2 x E)))
theorem JJ {n:Nat} {ds:Lq} (h:Fits prog n 388 ds) (j:kN 1048576 ds):CU (.agg ds)/\∀op N t to,D.agg ds= .agg [.int .i64 op,.int .i64 N,.str t,.int .i64 to]->(t.size:Int)<=1048576:=by
 obtain ⟨E,I,c2,J,e,_⟩:=(pV ho n).2.2.2.2.2.2.2.2.2.2.2 ds h j;subst e;simp only[kN,Sm]at j;refine ⟨⟨_,_,_,_,rfl⟩,λop N t to e=> ?_⟩;injection e with e;simp only[List.cons.injEq,D.int.injEq,D.str.injEq,true_and,and_true]at e;obtain ⟨rfl,rfl,rfl,rfl⟩:=e;omega
theorem Mg {n:Nat} {ds:Lq} (h:Fits prog n 242 ds) (E:kN 1048576 ds):v7 (.agg ds):=by
 obtain ⟨S,U,c2,V,_,e,_⟩:=(pV ho n).2.2.2.2.2.2.2.2.1 ds h E;subst e;cases n with
 | zero=>simp[Fits]at h
 | succ n=>
  obtain ⟨d0,d1,d2,d3,I,_,_,_,f3⟩:=sW h;simp only[List.cons.injEq,and_true]at I;obtain ⟨rfl,rfl,rfl,rfl⟩:=I;simp only[kN,Sm,kX]at E;refine ⟨S,U,c2,V,rfl,by omega,by omega,λy J=> ?_⟩;obtain ⟨ys,m',em,j,w,v⟩:=bF underlying240 f3;injection j with j;injection j with j;subst j em;obtain ⟨f1,M⟩:=v y J;rw[show cV prog 388=true by unfold cV;rw[underlying388]]at M;have O:=JJ ho f1 (kf (E.2.2.2.1.2 y J));rw[<-fK M]at O;exact O
theorem AF {n:Nat} {ds:Lq} (h:Fits prog n 25 ds) (I:kN 1048576 ds):∃fns ps,ds=[.lst fns,.lst ps]/\jZ fns ps:=by
 obtain ⟨O,_,S,_,e,_⟩:=(pV ho n).1 ds h I;subst e;refine ⟨O,S,rfl,?_⟩;cases n with
 | zero=>simp[Fits]at h
 | succ n=>
  obtain ⟨d0,d1,J,U,V⟩:=Es h;simp only[List.cons.injEq,and_true]at J;obtain ⟨rfl,rfl⟩:=J;simp only[kN,Sm,kX]at I;obtain ⟨ys,m,em,j,w,v⟩:=bF underlying22 U;injection j with j;injection j with j;subst j;obtain ⟨ys,M,a0,j,w2,v2⟩:=bF underlying23 V;injection j with j;injection j with j;subst j;refine ⟨λx E=> ?_,by omega,⟨M,λx E=> ?_⟩,by omega⟩
  ·obtain ⟨g1,g2⟩:=v x E;rw[show cV prog 242=true by unfold cV;rw[underlying242]]at g2;rw[fK g2];exact Mg ho g1 (kf (I.1.2 x E))
  obtain ⟨g1,g2⟩:=v2 x E;rw[show cV prog 245=true by unfold cV;rw[underlying245]]at g2;rw[fK g2];exact BQ ho M _ (.inr g1) (kf (I.2.1.2 x E))
end
end T2
