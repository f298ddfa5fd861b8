import Derived.Test.YtfnagkpidcdocaaGreatM30
set_option linter.all false
namespace T2
open Go Go.Vi
set_option maxRecDepth 100000
set_option maxHeartbeats 4000000
section
variable {o:aJ} (ho:aR cF bB o)
include ho
section
variable (c_0 c_1:List D) (f_0:ByteArray) (f_1 f_2:Int) (f_3:List D) (x_0 x_1:Int) (x_2:ByteArray) (x_3:Int) (hC:∀x∈c_0,uE x) (hCb:(c_0.length:Int)<=1048576) {m:Nat} (hP:∀x∈c_1,Tm m x) (hPb:(c_1.length:Int)<=1048576) (hs2:(x_2.size:Int)<=1048576) (hf:0<=f_2/\f_2<=400) (hl3:(f_3.length:Int)<=1048576)
include c_0 c_1 f_0 f_1 f_2 f_3 x_0 x_1 x_2 x_3 hC hCb m hP hPb hs2 hf hl3
theorem Hq (hop:x_0<1\/12<x_0):o.call 279 [.sp [.lst c_0,.lst c_1] 0,.sp [.str f_0,.int .i64 f_1,.int .i64 f_2,.lst f_3] 0,.agg [Ai x_0,Ai x_1,As x_2,Ai x_3]] []=Ar (Ab (aQ o c_0 c_1 f_2 f_3.length 0 x_0 x_1 x_2 x_3)):=by
 refine ho.aC λR Q=> ?_
 conv=>lhs;cbv
 rcases aP ho x_2 ⟨#[]⟩with ⟨e1,g1⟩|⟨e1,g1⟩<;>(conv=>lhs;rw[e1];cbv)
 ·obtain ⟨n1,e2,g2⟩:=ay ho f_3;obtain ⟨n2,e3,g3⟩:=aO ho n1 1;conv=>lhs;rw[e2];cbv;rw[e3];cbv
  rcases aN x_3 0 n2 with ⟨e4,g4⟩|⟨e4,g4⟩
  all_goals
   conv=>lhs;rw[av ho,e4];cbv
   iterate 12 (conv=>lhs;simp (disch:=omega) only [bC ho];cbv)
   subst Q;clear hC hP;have:aQ o c_0 c_1 f_2 f_3.length 0 x_0 x_1 x_2 x_3=false:=by unfold aQ;rw[if_neg (by omega)];rw[if_neg (by omega)];rw[if_neg (by omega)];rw[if_neg (by omega)];rw[if_neg (by omega)];rw[if_neg (by omega)];rw[if_neg (by omega)];rw[if_neg (by omega)];rw[if_neg (by omega)];rw[if_neg (by omega)];rw[if_neg (by omega)];rw[if_neg (by omega)]
   rw[this];try (first | rfl | (exfalso;omega))
 ·rcases aj ho x_3 0 with ⟨e2,g2⟩|⟨e2,g2⟩<;>(conv=>lhs;rw[e2];cbv)
  all_goals
   obtain ⟨n1,e3,g3⟩:=ay ho f_3;obtain ⟨n2,e4,g4⟩:=aO ho n1 1;conv=>lhs;rw[e3];cbv;rw[e4];cbv
   rcases aN x_3 0 n2 with ⟨e5,g5⟩|⟨e5,g5⟩
   all_goals
    conv=>lhs;rw[av ho,e5];cbv
    iterate 12 (conv=>lhs;simp (disch:=omega) only [bC ho];cbv)
    subst Q;clear hC hP;have:aQ o c_0 c_1 f_2 f_3.length 0 x_0 x_1 x_2 x_3=false:=by unfold aQ;rw[if_neg (by omega)];rw[if_neg (by omega)];rw[if_neg (by omega)];rw[if_neg (by omega)];rw[if_neg (by omega)];rw[if_neg (by omega)];rw[if_neg (by omega)];rw[if_neg (by omega)];rw[if_neg (by omega)];rw[if_neg (by omega)];rw[if_neg (by omega)];rw[if_neg (by omega)]
    rw[this];try (first | rfl | (exfalso;omega))
theorem Hr (hop:x_0=1):o.call 279 [.sp [.lst c_0,.lst c_1] 0,.sp [.str f_0,.int .i64 f_1,.int .i64 f_2,.lst f_3] 0,.agg [Ai x_0,Ai x_1,As x_2,Ai x_3]] []=Ar (Ab (aQ o c_0 c_1 f_2 f_3.length 0 x_0 x_1 x_2 x_3)):=by
 refine ho.aC λR Q=> ?_
 conv=>lhs;cbv
 rcases aP ho x_2 ⟨#[]⟩with ⟨e1,g1⟩|⟨e1,g1⟩<;>(conv=>lhs;rw[e1];cbv)
 ·obtain ⟨n1,e2,g2⟩:=ay ho f_3;obtain ⟨n2,e3,g3⟩:=aO ho n1 1;conv=>lhs;rw[e2];cbv;rw[e3];cbv
  rcases aN x_3 0 n2 with ⟨e4,g4⟩|⟨e4,g4⟩
  all_goals
   conv=>lhs;rw[av ho,e4];cbv;simp (disch:=omega) only [cw ho];cbv
   subst Q;clear hC hP;subst hop;simp_all [aQ]<;>omega
 ·rcases aj ho x_3 0 with ⟨e2,g2⟩|⟨e2,g2⟩<;>(conv=>lhs;rw[e2];cbv)
  ·obtain ⟨n1,e3,g3⟩:=ay ho f_3;obtain ⟨n2,e4,g4⟩:=aO ho n1 1;conv=>lhs;rw[e3];cbv;rw[e4];cbv
   rcases aN x_3 0 n2 with ⟨e5,g5⟩|⟨e5,g5⟩
   all_goals
    conv=>lhs;rw[av ho,e5];cbv;simp (disch:=omega) only [cw ho];cbv
    subst Q;clear hC hP;subst hop;simp_all [aQ]<;>omega
  ·obtain ⟨n1,e3,g3⟩:=ay ho f_3;obtain ⟨n2,e4,g4⟩:=aO ho n1 1;conv=>lhs;rw[e3];cbv;rw[e4];cbv
   rcases aN x_3 0 n2 with ⟨e5,g5⟩|⟨e5,g5⟩
   all_goals
    conv=>lhs;rw[av ho,e5];cbv;simp (disch:=omega) only [cw ho];cbv
    rcases aN x_1 0 1000000000000 with ⟨e8,g8⟩|⟨e8,g8⟩
    all_goals
     conv=>lhs;rw[av ho,e8];cbv
     subst Q;clear hC hP;subst hop;simp_all [aQ]<;>omega
theorem Hs (hop:x_0=2):o.call 279 [.sp [.lst c_0,.lst c_1] 0,.sp [.str f_0,.int .i64 f_1,.int .i64 f_2,.lst f_3] 0,.agg [Ai x_0,Ai x_1,As x_2,Ai x_3]] []=Ar (Ab (aQ o c_0 c_1 f_2 f_3.length 0 x_0 x_1 x_2 x_3)):=by
 refine ho.aC λR Q=> ?_
 conv=>lhs;cbv
 rcases aP ho x_2 ⟨#[]⟩with ⟨e1,g1⟩|⟨e1,g1⟩<;>(conv=>lhs;rw[e1];cbv)
 ·obtain ⟨n1,e2,g2⟩:=ay ho f_3;obtain ⟨n2,e3,g3⟩:=aO ho n1 1;conv=>lhs;rw[e2];cbv;rw[e3];cbv
  rcases aN x_3 0 n2 with ⟨e4,g4⟩|⟨e4,g4⟩
  all_goals
   conv=>lhs;rw[av ho,e4];cbv
   iterate 2 (conv=>lhs;simp (disch:=omega) only [bC ho,cw ho];cbv)
   rcases aj ho x_1 0 with ⟨e8,g8⟩|⟨e8,g8⟩<;>(conv=>lhs;rw[e8];cbv)
   ·subst Q;clear hC hP;subst hop;simp_all [aQ]<;>omega
   ·cases he9:gD o x_2<;>(conv=>lhs;rw[uH ho x_2 (by omega),he9];cbv)
    ·subst Q;try rw[he9]
     clear hC hP;subst hop;simp_all [aQ]<;>omega
    ·rcases aj ho x_3 0 with ⟨e10,g10⟩|⟨e10,g10⟩<;>(conv=>lhs;rw[e10];cbv)
     all_goals
      subst Q;try rw[he9]
      clear hC hP;subst hop;simp_all [aQ]<;>omega
 ·rcases aj ho x_3 0 with ⟨e2,g2⟩|⟨e2,g2⟩<;>(conv=>lhs;rw[e2];cbv)
  all_goals
   obtain ⟨n1,e3,g3⟩:=ay ho f_3;obtain ⟨n2,e4,g4⟩:=aO ho n1 1;conv=>lhs;rw[e3];cbv;rw[e4];cbv
   rcases aN x_3 0 n2 with ⟨e5,g5⟩|⟨e5,g5⟩
   all_goals
    conv=>lhs;rw[av ho,e5];cbv
    iterate 2 (conv=>lhs;simp (disch:=omega) only [bC ho,cw ho];cbv)
    rcases aj ho x_1 0 with ⟨e9,g9⟩|⟨e9,g9⟩<;>(conv=>lhs;rw[e9];cbv)
    ·subst Q;clear hC hP;subst hop;simp_all [aQ]<;>omega
    ·cases he10:gD o x_2<;>(conv=>lhs;rw[uH ho x_2 (by omega),he10];cbv)
     ·subst Q;try rw[he10]
      clear hC hP;subst hop;simp_all [aQ]<;>omega
     ·conv=>lhs;(try (rw[e2];cbv))
      subst Q;try rw[he10]
      clear hC hP;subst hop;simp_all [aQ]<;>omega
end
end
end T2
