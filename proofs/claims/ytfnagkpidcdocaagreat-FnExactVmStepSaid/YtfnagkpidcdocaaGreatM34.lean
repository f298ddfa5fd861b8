import Derived.Test.YtfnagkpidcdocaaGreatM30
set_option linter.all false
namespace T2
open Go Go.Vi
set_option maxRecDepth 100000
set_option maxHeartbeats 4000000
section
variable {o:aJ} (ho:aR cF bB o)
include ho
section
variable (c_0 c_1:List D) (f_0:ByteArray) (f_1 f_2:Int) (f_3:List D) (x_0 x_1:Int) (x_2:ByteArray) (x_3:Int) (hC:∀x∈c_0,uE x) (hCb:(c_0.length:Int)<=1048576) {m:Nat} (hP:∀x∈c_1,Tm m x) (hPb:(c_1.length:Int)<=1048576) (hs2:(x_2.size:Int)<=1048576) (hf:0<=f_2/\f_2<=400) (hl3:(f_3.length:Int)<=1048576)
include c_0 c_1 f_0 f_1 f_2 f_3 x_0 x_1 x_2 x_3 hC hCb m hP hPb hs2 hf hl3
theorem Hz (hop:x_0=9):o.call 279 [.sp [.lst c_0,.lst c_1] 0,.sp [.str f_0,.int .i64 f_1,.int .i64 f_2,.lst f_3] 0,.agg [Ai x_0,Ai x_1,As x_2,Ai x_3]] []=Ar (Ab (aQ o c_0 c_1 f_2 f_3.length 0 x_0 x_1 x_2 x_3)):=by
 refine ho.aC λR Q=> ?_
 conv=>lhs;cbv
 rcases aP ho x_2 ⟨#[]⟩with ⟨e1,g1⟩|⟨e1,g1⟩<;>(conv=>lhs;rw[e1];cbv)
 ·obtain ⟨n1,e2,g2⟩:=ay ho f_3;obtain ⟨n2,e3,g3⟩:=aO ho n1 1;conv=>lhs;rw[e2];cbv;rw[e3];cbv
  rcases aN x_3 0 n2 with ⟨e4,g4⟩|⟨e4,g4⟩
  all_goals
   conv=>lhs;rw[av ho,e4];cbv
   iterate 9 (conv=>lhs;simp (disch:=omega) only [bC ho,cw ho];cbv)
   conv=>lhs;(try (rw[e1];cbv))
   subst Q;clear hC hP;subst hop;simp_all [aQ]<;>omega
 ·rcases aj ho x_3 0 with ⟨e2,g2⟩|⟨e2,g2⟩<;>(conv=>lhs;rw[e2];cbv)
  all_goals
   obtain ⟨n1,e3,g3⟩:=ay ho f_3;obtain ⟨n2,e4,g4⟩:=aO ho n1 1;conv=>lhs;rw[e3];cbv;rw[e4];cbv
   rcases aN x_3 0 n2 with ⟨e5,g5⟩|⟨e5,g5⟩
   ·conv=>lhs;rw[av ho,e5];cbv
    iterate 9 (conv=>lhs;simp (disch:=omega) only [bC ho,cw ho];cbv)
    conv=>lhs;(try (rw[e1];cbv))
    subst Q;clear hC hP;subst hop;simp_all [aQ]<;>omega
   ·conv=>lhs;rw[av ho,e5];cbv
    iterate 9 (conv=>lhs;simp (disch:=omega) only [bC ho,cw ho];cbv)
    obtain ⟨n3,e16,g16⟩:=ay ho c_1;obtain ⟨n4,e17,g17⟩:=aO ho n3 1;conv=>lhs;(try (rw[e1];cbv));rw[e16];cbv;rw[e17];cbv
    rcases aN x_1 0 n4 with ⟨e18,g18⟩|⟨e18,g18⟩
    ·conv=>lhs;rw[av ho,e18];cbv
     subst Q;clear hC hP;subst hop;simp_all [aQ]<;>omega
    ·obtain ⟨x,hx0,hx1,hx2⟩:=ax (xs:=c_1) rfl (show 0<=x_1 by omega) (by omega);obtain ⟨m',n5,n6,s1,l1,hd',rfl,hs,hl,ht⟩:=bP (hP _ hx2);have hTp:=hP _ hx2;have hv:DE o c_1 x_1 f_2=qU o (.agg [.int .i64 n5,.int .i64 n6,.str s1,.lst l1]) f_2:=by unfold DE;rw[hx0]
     have e20:o.dD c_1 x_1=some (.agg [.int .i64 n5,.int .i64 n6,.str s1,.lst l1]):=ak ho (by omega) hx0;obtain ⟨b14,he21⟩:∃b:Bool,qU o (.agg [.int .i64 n5,.int .i64 n6,.str s1,.lst l1]) f_2=b:=⟨_,rfl⟩
     have e21:o.call 344 [At n5 n6 s1 l1,Ai f_2] []=Ar (Ab b14):=(Dz ho _ _ _ _ hTp f_2).trans (by rw[he21]);conv=>lhs;rw[av ho,e18];cbv;rw[e20];cbv;rw[e21];cbv
     subst Q;clear hC hP;subst hop;simp_all [aQ]<;>omega
theorem Eu (hop:x_0=10):o.call 279 [.sp [.lst c_0,.lst c_1] 0,.sp [.str f_0,.int .i64 f_1,.int .i64 f_2,.lst f_3] 0,.agg [Ai x_0,Ai x_1,As x_2,Ai x_3]] []=Ar (Ab (aQ o c_0 c_1 f_2 f_3.length 0 x_0 x_1 x_2 x_3)):=by
 refine ho.aC λR Q=> ?_
 conv=>lhs;cbv
 rcases aP ho x_2 ⟨#[]⟩with ⟨e1,g1⟩|⟨e1,g1⟩<;>(conv=>lhs;rw[e1];cbv)
 ·obtain ⟨n1,e2,g2⟩:=ay ho f_3;obtain ⟨n2,e3,g3⟩:=aO ho n1 1;conv=>lhs;rw[e2];cbv;rw[e3];cbv
  rcases aN x_3 0 n2 with ⟨e4,g4⟩|⟨e4,g4⟩
  all_goals
   conv=>lhs;rw[av ho,e4];cbv
   iterate 10 (conv=>lhs;simp (disch:=omega) only [bC ho,cw ho];cbv)
   conv=>lhs;(try (rw[e1];cbv))
   subst Q;clear hC hP;subst hop;simp_all [aQ]<;>omega
 ·rcases aj ho x_3 0 with ⟨e2,g2⟩|⟨e2,g2⟩<;>(conv=>lhs;rw[e2];cbv)
  all_goals
   obtain ⟨n1,e3,g3⟩:=ay ho f_3;obtain ⟨n2,e4,g4⟩:=aO ho n1 1;conv=>lhs;rw[e3];cbv;rw[e4];cbv
   rcases aN x_3 0 n2 with ⟨e5,g5⟩|⟨e5,g5⟩
   all_goals
    conv=>lhs;rw[av ho,e5];cbv
    iterate 10 (conv=>lhs;simp (disch:=omega) only [bC ho,cw ho];cbv)
    conv=>lhs;(try (rw[e1];cbv))
    rcases aj ho x_1 0 with ⟨e17,g17⟩|⟨e17,g17⟩<;>(conv=>lhs;rw[e17];cbv)
    all_goals
     subst Q;clear hC hP;subst hop;simp_all [aQ]<;>omega
theorem Ev (hop:x_0=11):o.call 279 [.sp [.lst c_0,.lst c_1] 0,.sp [.str f_0,.int .i64 f_1,.int .i64 f_2,.lst f_3] 0,.agg [Ai x_0,Ai x_1,As x_2,Ai x_3]] []=Ar (Ab (aQ o c_0 c_1 f_2 f_3.length 0 x_0 x_1 x_2 x_3)):=by
 refine ho.aC λR Q=> ?_
 conv=>lhs;cbv
 rcases aP ho x_2 ⟨#[]⟩with ⟨e1,g1⟩|⟨e1,g1⟩<;>(conv=>lhs;rw[e1];cbv)
 ·obtain ⟨n1,e2,g2⟩:=ay ho f_3;obtain ⟨n2,e3,g3⟩:=aO ho n1 1;conv=>lhs;rw[e2];cbv;rw[e3];cbv
  rcases aN x_3 0 n2 with ⟨e4,g4⟩|⟨e4,g4⟩
  all_goals
   conv=>lhs;rw[av ho,e4];cbv
   iterate 11 (conv=>lhs;simp (disch:=omega) only [bC ho,cw ho];cbv)
   subst Q;clear hC hP;subst hop;simp_all [aQ]<;>omega
 ·rcases aj ho x_3 0 with ⟨e2,g2⟩|⟨e2,g2⟩<;>(conv=>lhs;rw[e2];cbv)
  ·obtain ⟨n1,e3,g3⟩:=ay ho f_3;obtain ⟨n2,e4,g4⟩:=aO ho n1 1;conv=>lhs;rw[e3];cbv;rw[e4];cbv
   rcases aN x_3 0 n2 with ⟨e5,g5⟩|⟨e5,g5⟩
   all_goals
    conv=>lhs;rw[av ho,e5];cbv
    iterate 11 (conv=>lhs;simp (disch:=omega) only [bC ho,cw ho];cbv)
    subst Q;clear hC hP;subst hop;simp_all [aQ]<;>omega
  ·obtain ⟨n1,e3,g3⟩:=ay ho f_3;obtain ⟨n2,e4,g4⟩:=aO ho n1 1;conv=>lhs;rw[e3];cbv;rw[e4];cbv
   rcases aN x_3 0 n2 with ⟨e5,g5⟩|⟨e5,g5⟩
   all_goals
    conv=>lhs;rw[av ho,e5];cbv
    iterate 11 (conv=>lhs;simp (disch:=omega) only [bC ho,cw ho];cbv)
    rcases aj ho x_1 0 with ⟨e18,g18⟩|⟨e18,g18⟩<;>(conv=>lhs;rw[e18];cbv)
    all_goals
     subst Q;clear hC hP;subst hop;simp_all [aQ]<;>omega
theorem Ew (hop:x_0=12):o.call 279 [.sp [.lst c_0,.lst c_1] 0,.sp [.str f_0,.int .i64 f_1,.int .i64 f_2,.lst f_3] 0,.agg [Ai x_0,Ai x_1,As x_2,Ai x_3]] []=Ar (Ab (aQ o c_0 c_1 f_2 f_3.length 0 x_0 x_1 x_2 x_3)):=by
 refine ho.aC λR Q=> ?_
 conv=>lhs;cbv
 rcases aP ho x_2 ⟨#[]⟩with ⟨e1,g1⟩|⟨e1,g1⟩<;>(conv=>lhs;rw[e1];cbv)
 ·obtain ⟨n1,e2,g2⟩:=ay ho f_3;obtain ⟨n2,e3,g3⟩:=aO ho n1 1;conv=>lhs;rw[e2];cbv;rw[e3];cbv
  rcases aN x_3 0 n2 with ⟨e4,g4⟩|⟨e4,g4⟩
  all_goals
   conv=>lhs;rw[av ho,e4];cbv
   iterate 12 (conv=>lhs;simp (disch:=omega) only [bC ho,cw ho];cbv)
   subst Q;clear hC hP;subst hop;simp_all [aQ]<;>omega
 ·rcases aj ho x_3 0 with ⟨e2,g2⟩|⟨e2,g2⟩<;>(conv=>lhs;rw[e2];cbv)
  ·obtain ⟨n1,e3,g3⟩:=ay ho f_3;obtain ⟨n2,e4,g4⟩:=aO ho n1 1;conv=>lhs;rw[e3];cbv;rw[e4];cbv
   rcases aN x_3 0 n2 with ⟨e5,g5⟩|⟨e5,g5⟩
   all_goals
    conv=>lhs;rw[av ho,e5];cbv
    iterate 12 (conv=>lhs;simp (disch:=omega) only [bC ho,cw ho];cbv)
    subst Q;clear hC hP;subst hop;simp_all [aQ]<;>omega
  ·obtain ⟨n1,e3,g3⟩:=ay ho f_3;obtain ⟨n2,e4,g4⟩:=aO ho n1 1;conv=>lhs;rw[e3];cbv;rw[e4];cbv
   rcases aN x_3 0 n2 with ⟨e5,g5⟩|⟨e5,g5⟩
   all_goals
    conv=>lhs;rw[av ho,e5];cbv
    iterate 12 (conv=>lhs;simp (disch:=omega) only [bC ho,cw ho];cbv)
    rcases aj ho x_1 0 with ⟨e19,g19⟩|⟨e19,g19⟩<;>(conv=>lhs;rw[e19];cbv)
    all_goals
     subst Q;clear hC hP;subst hop;simp_all [aQ]<;>omega
end
end
end T2
