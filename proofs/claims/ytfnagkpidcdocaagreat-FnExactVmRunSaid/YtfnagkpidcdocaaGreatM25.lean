import Derived.Test.YtfnagkpidcdocaaGreatM24
set_option linter.all false
namespace T2
open Go Go.Vi
set_option maxRecDepth 100000
set_option maxHeartbeats 4000000
section
variable {o:aK} (ho:aU cF bE o)
include ho
theorem Hw (c_0 c_1:List D) (f_0:ByteArray) (f_1 f_2:Int) (f_3:List D) (x_0 x_1:Int) (x_2:ByteArray) (x_3:Int) (hC:∀x∈c_0,tH x) (hCb:(c_0.length:Int)<=1048576) {m:Nat} (hP:∀x∈c_1,Tm m x) (hPb:(c_1.length:Int)<=1048576) (hs2:(x_2.size:Int)<=1048576) (hf:0<=f_2/\f_2<=400) (hl3:(f_3.length:Int)<=1048576):o.call 279 [.sp [.lst c_0,.lst c_1] 0,.sp [.str f_0,.int .i64 f_1,.int .i64 f_2,.lst f_3] 0,.agg [Ai x_0,Ai x_1,As x_2,Ai x_3]] []=Ar (Ab (aQ o c_0 c_1 f_2 f_3.length 0 x_0 x_1 x_2 x_3)):=by
 by_cases h1:x_0=1
 ·exact Hy ho c_0 c_1 f_0 f_1 f_2 f_3 x_0 x_1 x_2 x_3 hC hCb hP hPb hs2 hf hl3 h1
 by_cases h2:x_0=2
 ·exact Hz ho c_0 c_1 f_0 f_1 f_2 f_3 x_0 x_1 x_2 x_3 hC hCb hP hPb hs2 hf hl3 h2
 by_cases h3:x_0=3
 ·exact HA ho c_0 c_1 f_0 f_1 f_2 f_3 x_0 x_1 x_2 x_3 hC hCb hP hPb hs2 hf hl3 h3
 by_cases h4:x_0=4
 ·exact HB ho c_0 c_1 f_0 f_1 f_2 f_3 x_0 x_1 x_2 x_3 hC hCb hP hPb hs2 hf hl3 h4
 by_cases h5:x_0=5
 ·exact HC ho c_0 c_1 f_0 f_1 f_2 f_3 x_0 x_1 x_2 x_3 hC hCb hP hPb hs2 hf hl3 h5
 by_cases h6:x_0=6
 ·exact HE ho c_0 c_1 f_0 f_1 f_2 f_3 x_0 x_1 x_2 x_3 hC hCb hP hPb hs2 hf hl3 h6
 by_cases h7:x_0=7
 ·exact HF ho c_0 c_1 f_0 f_1 f_2 f_3 x_0 x_1 x_2 x_3 hC hCb hP hPb hs2 hf hl3 h7
 by_cases h8:x_0=8
 ·exact HG ho c_0 c_1 f_0 f_1 f_2 f_3 x_0 x_1 x_2 x_3 hC hCb hP hPb hs2 hf hl3 h8
 by_cases h9:x_0=9
 ·exact HI ho c_0 c_1 f_0 f_1 f_2 f_3 x_0 x_1 x_2 x_3 hC hCb hP hPb hs2 hf hl3 h9
 by_cases h10:x_0=10
 ·exact EG ho c_0 c_1 f_0 f_1 f_2 f_3 x_0 x_1 x_2 x_3 hC hCb hP hPb hs2 hf hl3 h10
 by_cases h11:x_0=11
 ·exact EH ho c_0 c_1 f_0 f_1 f_2 f_3 x_0 x_1 x_2 x_3 hC hCb hP hPb hs2 hf hl3 h11
 by_cases h12:x_0=12
 ·exact EJ ho c_0 c_1 f_0 f_1 f_2 f_3 x_0 x_1 x_2 x_3 hC hCb hP hPb hs2 hf hl3 h12
 exact Hx ho c_0 c_1 f_0 f_1 f_2 f_3 x_0 x_1 x_2 x_3 hC hCb hP hPb hs2 hf hl3 (by omega)
end
section
variable {o:aK} (ho:aU cF bE o)
include ho
section
variable (a0_0 a0_1:List D) (a1_0:ByteArray) (a1_1 a1_2:Int) (a1_3:List D) (a2 n1 n2:Int) (s1:ByteArray) (n3:Int) (hI:a1_3[a2.toNat]? =some (.agg [.int .i64 n1,.int .i64 n2,.str s1,.int .i64 n3])) (h20:0<=a2) (h21:a2<a1_3.length) (hC:∀x∈a0_0,tH x) (hCb:(a0_0.length:Int)<=1048576) {m:Nat} (hP:∀x∈a0_1,Tm m x) (hPb:(a0_1.length:Int)<=1048576) (hs2:(s1.size:Int)<=1048576) (hf:0<=a1_2/\a1_2<=400) (hl3:(a1_3.length:Int)<=1048576)
include a0_0 a0_1 a1_0 a1_1 a1_2 a1_3 a2 n1 n2 s1 n3 hI h20 h21 hC hCb m hP hPb hs2 hf hl3
theorem HJ (hop:n1<1\/10<n1):o.call 317 [.agg [Al a0_0,Al a0_1],.agg [As a1_0,Ai a1_1,Ai a1_2,Al a1_3],Ai a2] []=Ar (Ab (aQ o a0_0 a0_1 a1_2 a1_3.length (a2+1) n1 n2 s1 n3)):=by
 refine ho.aI fun R Q=> ?_
 have e1:=av ho h20 hI;conv=>lhs;cbv;rw [e1];cbv
 rcases aP ho s1 ⟨#[]⟩with ⟨e2,g2⟩|⟨e2,g2⟩<;>(conv=>lhs;rw [e2];cbv)
 ·conv=>lhs;(try (rw [e2];cbv));rw [aj ho n1 1];cbv;rw [aj ho n1 2];cbv;rw [aj ho n1 3];cbv;rw [aj ho n1 4];cbv;rw [aj ho n1 5];cbv;rw [aj ho n1 6];cbv;rw [aj ho n1 7];cbv;rw [aj ho n1 8];cbv;rw [aj ho n1 9];cbv;rw [aj ho n1 10];cbv
  subst Q;clear hC hP hI;have:aQ o a0_0 a0_1 a1_2 a1_3.length (a2+1) n1 n2 s1 n3=(i_ n1 11 12&&(decide (s1=⟨#[]⟩)&&decide (n3=0)&&decide (n2=0))):=by
   unfold aQ;rw [if_neg (by omega)];rw [if_neg (by omega)];rw [if_neg (by omega)];rw [if_neg (by omega)];rw [if_neg (by omega)];rw [if_neg (by omega)];rw [if_neg (by omega)];rw [if_neg (by omega)];rw [if_neg (by omega)];rw [if_neg (by omega)];by_cases h1:n1=11
   · rw [if_pos h1,eO (by omega)];rfl
   rw [if_neg h1];by_cases h2:n1=12
   · rw [if_pos h2,eO (by omega)];rfl
   rw [if_neg h2,jx (by omega)];rfl
  rw [this];try (simp_all<;>omega)
 ·rcases ak ho n3 0 with ⟨e3,g3⟩|⟨e3,g3⟩<;>(conv=>lhs;rw [e3];cbv)
  ·obtain ⟨n4,e4,g4⟩:=bA ho a2 1;obtain ⟨n5,e5,g5⟩:=aB ho a1_3;obtain ⟨n6,e6,g6⟩:=aS ho n5 1;conv=>lhs;(try (rw [e2];cbv));rw [e4];cbv;rw [e5];cbv;rw [e6];cbv
   rcases aR n3 n4 n6 with ⟨e7,g7⟩|⟨e7,g7⟩
   all_goals
    conv=>lhs;rw [aH ho,e7];cbv;rw [aj ho n1 1];cbv;rw [aj ho n1 2];cbv;rw [aj ho n1 3];cbv;rw [aj ho n1 4];cbv;rw [aj ho n1 5];cbv;rw [aj ho n1 6];cbv;rw [aj ho n1 7];cbv;rw [aj ho n1 8];cbv;rw [aj ho n1 9];cbv;rw [aj ho n1 10];cbv
    subst Q;clear hC hP hI;have:aQ o a0_0 a0_1 a1_2 a1_3.length (a2+1) n1 n2 s1 n3=(i_ n1 11 12&&(decide (s1=⟨#[]⟩)&&decide (n3=0)&&decide (n2=0))):=by
     unfold aQ;rw [if_neg (by omega)];rw [if_neg (by omega)];rw [if_neg (by omega)];rw [if_neg (by omega)];rw [if_neg (by omega)];rw [if_neg (by omega)];rw [if_neg (by omega)];rw [if_neg (by omega)];rw [if_neg (by omega)];rw [if_neg (by omega)];by_cases h1:n1=11
     · rw [if_pos h1,eO (by omega)];rfl
     rw [if_neg h1];by_cases h2:n1=12
     · rw [if_pos h2,eO (by omega)];rfl
     rw [if_neg h2,jx (by omega)];rfl
    rw [this];try (simp_all<;>omega)
  ·obtain ⟨n4,e4,g4⟩:=bA ho a2 1;obtain ⟨n5,e5,g5⟩:=aB ho a1_3;obtain ⟨n6,e6,g6⟩:=aS ho n5 1;conv=>lhs;(try (rw [e2];cbv));rw [e4];cbv;rw [e5];cbv;rw [e6];cbv
   rcases aR n3 n4 n6 with ⟨e7,g7⟩|⟨e7,g7⟩
   all_goals
    conv=>lhs;rw [aH ho,e7];cbv;rw [aj ho n1 1];cbv;rw [aj ho n1 2];cbv;rw [aj ho n1 3];cbv;rw [aj ho n1 4];cbv;rw [aj ho n1 5];cbv;rw [aj ho n1 6];cbv;rw [aj ho n1 7];cbv;rw [aj ho n1 8];cbv;rw [aj ho n1 9];cbv;rw [aj ho n1 10];cbv
    rcases ak ho n2 0 with ⟨e19,g19⟩|⟨e19,g19⟩<;>(conv=>lhs;rw [e19];cbv)
    ·subst Q;clear hC hP hI;have:aQ o a0_0 a0_1 a1_2 a1_3.length (a2+1) n1 n2 s1 n3=(i_ n1 11 12&&(decide (s1=⟨#[]⟩)&&decide (n3=0)&&decide (n2=0))):=by
      unfold aQ;rw [if_neg (by omega)];rw [if_neg (by omega)];rw [if_neg (by omega)];rw [if_neg (by omega)];rw [if_neg (by omega)];rw [if_neg (by omega)];rw [if_neg (by omega)];rw [if_neg (by omega)];rw [if_neg (by omega)];rw [if_neg (by omega)];by_cases h1:n1=11
      · rw [if_pos h1,eO (by omega)];rfl
      rw [if_neg h1];by_cases h2:n1=12
      · rw [if_pos h2,eO (by omega)];rfl
      rw [if_neg h2,jx (by omega)];rfl
     rw [this];try (simp_all<;>omega)
    ·rcases aR n1 11 12 with ⟨e20,g20⟩|⟨e20,g20⟩
     all_goals
      conv=>lhs;rw [aH ho,e20];cbv
      subst Q;clear hC hP hI;have:aQ o a0_0 a0_1 a1_2 a1_3.length (a2+1) n1 n2 s1 n3=(i_ n1 11 12&&(decide (s1=⟨#[]⟩)&&decide (n3=0)&&decide (n2=0))):=by
       unfold aQ;rw [if_neg (by omega)];rw [if_neg (by omega)];rw [if_neg (by omega)];rw [if_neg (by omega)];rw [if_neg (by omega)];rw [if_neg (by omega)];rw [if_neg (by omega)];rw [if_neg (by omega)];rw [if_neg (by omega)];rw [if_neg (by omega)];by_cases h1:n1=11
       · rw [if_pos h1,eO (by omega)];rfl
       rw [if_neg h1];by_cases h2:n1=12
       · rw [if_pos h2,eO (by omega)];rfl
       rw [if_neg h2,jx (by omega)];rfl
      rw [this];try (simp_all<;>omega)
theorem HK (hop:n1=1):o.call 317 [.agg [Al a0_0,Al a0_1],.agg [As a1_0,Ai a1_1,Ai a1_2,Al a1_3],Ai a2] []=Ar (Ab (aQ o a0_0 a0_1 a1_2 a1_3.length (a2+1) n1 n2 s1 n3)):=by
 refine ho.aI fun R Q=> ?_
 have e1:=av ho h20 hI;conv=>lhs;cbv;rw [e1];cbv
 rcases aP ho s1 ⟨#[]⟩with ⟨e2,g2⟩|⟨e2,g2⟩<;>(conv=>lhs;rw [e2];cbv)
 ·conv=>lhs;(try (rw [e2];cbv));rw [cQ ho n1 1];cbv
  subst Q;clear hC hP hI;subst hop;simp_all [aQ]<;>omega
 ·rcases ak ho n3 0 with ⟨e3,g3⟩|⟨e3,g3⟩<;>(conv=>lhs;rw [e3];cbv)
  ·obtain ⟨n4,e4,g4⟩:=bA ho a2 1;obtain ⟨n5,e5,g5⟩:=aB ho a1_3;obtain ⟨n6,e6,g6⟩:=aS ho n5 1;conv=>lhs;(try (rw [e2];cbv));rw [e4];cbv;rw [e5];cbv;rw [e6];cbv
   rcases aR n3 n4 n6 with ⟨e7,g7⟩|⟨e7,g7⟩
   all_goals
    conv=>lhs;rw [aH ho,e7];cbv;rw [cQ ho n1 1];cbv
    subst Q;clear hC hP hI;subst hop;simp_all [aQ]<;>omega
  ·obtain ⟨n4,e4,g4⟩:=bA ho a2 1;obtain ⟨n5,e5,g5⟩:=aB ho a1_3;obtain ⟨n6,e6,g6⟩:=aS ho n5 1;conv=>lhs;(try (rw [e2];cbv));rw [e4];cbv;rw [e5];cbv;rw [e6];cbv
   rcases aR n3 n4 n6 with ⟨e7,g7⟩|⟨e7,g7⟩
   all_goals
    conv=>lhs;rw [aH ho,e7];cbv;rw [cQ ho n1 1];cbv
    rcases aR n2 0 1000000000000 with ⟨e10,g10⟩|⟨e10,g10⟩
    all_goals
     conv=>lhs;rw [aH ho,e10];cbv
     subst Q;clear hC hP hI;subst hop;simp_all [aQ]<;>omega
theorem HL (hop:n1=2):o.call 317 [.agg [Al a0_0,Al a0_1],.agg [As a1_0,Ai a1_1,Ai a1_2,Al a1_3],Ai a2] []=Ar (Ab (aQ o a0_0 a0_1 a1_2 a1_3.length (a2+1) n1 n2 s1 n3)):=by
 refine ho.aI fun R Q=> ?_
 have e1:=av ho h20 hI;conv=>lhs;cbv;rw [e1];cbv
 rcases aP ho s1 ⟨#[]⟩with ⟨e2,g2⟩|⟨e2,g2⟩<;>(conv=>lhs;rw [e2];cbv)
 ·conv=>lhs;(try (rw [e2];cbv));rw [aj ho n1 1];cbv;rw [cQ ho n1 2];cbv
  cases he5:gh o s1
  ·have e5:o.call 316 [As s1] []=Ar (Ab false):=(oz ho s1 (by omega)).trans (by rw [he5]);conv=>lhs;rw [e5];cbv
   subst Q;try rw [he5]
   clear hC hP hI;subst hop;simp_all [aQ]<;>omega
  ·have e5:o.call 316 [As s1] []=Ar (Ab true):=(oz ho s1 (by omega)).trans (by rw [he5]);conv=>lhs;rw [e5];cbv
   rcases ak ho n2 0 with ⟨e6,g6⟩|⟨e6,g6⟩<;>(conv=>lhs;rw [e6];cbv)
   ·subst Q;try rw [he5]
    clear hC hP hI;subst hop;simp_all [aQ]<;>omega
   ·rcases ak ho n3 0 with ⟨e7,g7⟩|⟨e7,g7⟩<;>(conv=>lhs;rw [e7];cbv)
    all_goals
     subst Q;try rw [he5]
     clear hC hP hI;subst hop;simp_all [aQ]<;>omega
 ·rcases ak ho n3 0 with ⟨e3,g3⟩|⟨e3,g3⟩<;>(conv=>lhs;rw [e3];cbv)
  all_goals
   obtain ⟨n4,e4,g4⟩:=bA ho a2 1;obtain ⟨n5,e5,g5⟩:=aB ho a1_3;obtain ⟨n6,e6,g6⟩:=aS ho n5 1;conv=>lhs;(try (rw [e2];cbv));rw [e4];cbv;rw [e5];cbv;rw [e6];cbv
   rcases aR n3 n4 n6 with ⟨e7,g7⟩|⟨e7,g7⟩
   all_goals
    conv=>lhs;rw [aH ho,e7];cbv;rw [aj ho n1 1];cbv;rw [cQ ho n1 2];cbv
    cases he11:gh o s1
    ·have e11:o.call 316 [As s1] []=Ar (Ab false):=(oz ho s1 (by omega)).trans (by rw [he11]);conv=>lhs;rw [e11];cbv
     subst Q;try rw [he11]
     clear hC hP hI;subst hop;simp_all [aQ]<;>omega
    ·have e11:o.call 316 [As s1] []=Ar (Ab true):=(oz ho s1 (by omega)).trans (by rw [he11]);conv=>lhs;rw [e11];cbv
     rcases ak ho n2 0 with ⟨e12,g12⟩|⟨e12,g12⟩<;>(conv=>lhs;rw [e12];cbv)
     ·subst Q;try rw [he11]
      clear hC hP hI;subst hop;simp_all [aQ]<;>omega
     ·conv=>lhs;(try (simp (disch:=omega) only [bG ho];cbv))
      subst Q;try rw [he11]
      clear hC hP hI;subst hop;simp_all [aQ]<;>omega
theorem HM (hop:n1=3):o.call 317 [.agg [Al a0_0,Al a0_1],.agg [As a1_0,Ai a1_1,Ai a1_2,Al a1_3],Ai a2] []=Ar (Ab (aQ o a0_0 a0_1 a1_2 a1_3.length (a2+1) n1 n2 s1 n3)):=by
 refine ho.aI fun R Q=> ?_
 have e1:=av ho h20 hI;conv=>lhs;cbv;rw [e1];cbv
 rcases aP ho s1 ⟨#[]⟩with ⟨e2,g2⟩|⟨e2,g2⟩<;>(conv=>lhs;rw [e2];cbv)
 ·conv=>lhs;(try (rw [e2];cbv));rw [aj ho n1 1];cbv;rw [aj ho n1 2];cbv;rw [cQ ho n1 3];cbv
  subst Q;clear hC hP hI;subst hop;simp_all [aQ]<;>omega
 ·rcases ak ho n3 0 with ⟨e3,g3⟩|⟨e3,g3⟩<;>(conv=>lhs;rw [e3];cbv)
  ·obtain ⟨n4,e4,g4⟩:=bA ho a2 1;obtain ⟨n5,e5,g5⟩:=aB ho a1_3;obtain ⟨n6,e6,g6⟩:=aS ho n5 1;conv=>lhs;(try (rw [e2];cbv));rw [e4];cbv;rw [e5];cbv;rw [e6];cbv
   rcases aR n3 n4 n6 with ⟨e7,g7⟩|⟨e7,g7⟩
   all_goals
    conv=>lhs;rw [aH ho,e7];cbv;rw [aj ho n1 1];cbv;rw [aj ho n1 2];cbv;rw [cQ ho n1 3];cbv
    subst Q;clear hC hP hI;subst hop;simp_all [aQ]<;>omega
  ·obtain ⟨n4,e4,g4⟩:=bA ho a2 1;obtain ⟨n5,e5,g5⟩:=aB ho a1_3;obtain ⟨n6,e6,g6⟩:=aS ho n5 1;conv=>lhs;(try (rw [e2];cbv));rw [e4];cbv;rw [e5];cbv;rw [e6];cbv
   rcases aR n3 n4 n6 with ⟨e7,g7⟩|⟨e7,g7⟩
   all_goals
    obtain ⟨n7,e12,g12⟩:=aS ho a1_2 1;conv=>lhs;rw [aH ho,e7];cbv;rw [aj ho n1 1];cbv;rw [aj ho n1 2];cbv;rw [cQ ho n1 3];cbv;rw [e12];cbv
    rcases aR n2 0 n7 with ⟨e13,g13⟩|⟨e13,g13⟩
    all_goals
     conv=>lhs;rw [aH ho,e13];cbv
     subst Q;clear hC hP hI;subst hop;simp_all [aQ]<;>omega
end
end
section
variable {o:aK} (ho:aU cF bE o)
include ho
section
variable (a0_0 a0_1:List D) (a1_0:ByteArray) (a1_1 a1_2:Int) (a1_3:List D) (a2 n1 n2:Int) (s1:ByteArray) (n3:Int) (hI:a1_3[a2.toNat]? =some (.agg [.int .i64 n1,.int .i64 n2,.str s1,.int .i64 n3])) (h20:0<=a2) (h21:a2<a1_3.length) (hC:∀x∈a0_0,tH x) (hCb:(a0_0.length:Int)<=1048576) {m:Nat} (hP:∀x∈a0_1,Tm m x) (hPb:(a0_1.length:Int)<=1048576) (hs2:(s1.size:Int)<=1048576) (hf:0<=a1_2/\a1_2<=400) (hl3:(a1_3.length:Int)<=1048576)
include a0_0 a0_1 a1_0 a1_1 a1_2 a1_3 a2 n1 n2 s1 n3 hI h20 h21 hC hCb m hP hPb hs2 hf hl3
theorem HN (hop:n1=4):o.call 317 [.agg [Al a0_0,Al a0_1],.agg [As a1_0,Ai a1_1,Ai a1_2,Al a1_3],Ai a2] []=Ar (Ab (aQ o a0_0 a0_1 a1_2 a1_3.length (a2+1) n1 n2 s1 n3)):=by
 refine ho.aI fun R Q=> ?_
 have e1:=av ho h20 hI;conv=>lhs;cbv;rw [e1];cbv
 rcases aP ho s1 ⟨#[]⟩with ⟨e2,g2⟩|⟨e2,g2⟩<;>(conv=>lhs;rw [e2];cbv)
 ·conv=>lhs;(try (rw [e2];cbv));rw [aj ho n1 1];cbv;rw [aj ho n1 2];cbv;rw [aj ho n1 3];cbv;rw [cQ ho n1 4];cbv
  subst Q;clear hC hP hI;subst hop;simp_all [aQ]<;>omega
 ·rcases ak ho n3 0 with ⟨e3,g3⟩|⟨e3,g3⟩<;>(conv=>lhs;rw [e3];cbv)
  ·obtain ⟨n4,e4,g4⟩:=bA ho a2 1;obtain ⟨n5,e5,g5⟩:=aB ho a1_3;obtain ⟨n6,e6,g6⟩:=aS ho n5 1;conv=>lhs;(try (rw [e2];cbv));rw [e4];cbv;rw [e5];cbv;rw [e6];cbv
   rcases aR n3 n4 n6 with ⟨e7,g7⟩|⟨e7,g7⟩
   all_goals
    conv=>lhs;rw [aH ho,e7];cbv;rw [aj ho n1 1];cbv;rw [aj ho n1 2];cbv;rw [aj ho n1 3];cbv;rw [cQ ho n1 4];cbv
    subst Q;clear hC hP hI;subst hop;simp_all [aQ]<;>omega
  ·obtain ⟨n4,e4,g4⟩:=bA ho a2 1;obtain ⟨n5,e5,g5⟩:=aB ho a1_3;obtain ⟨n6,e6,g6⟩:=aS ho n5 1;conv=>lhs;(try (rw [e2];cbv));rw [e4];cbv;rw [e5];cbv;rw [e6];cbv
   rcases aR n3 n4 n6 with ⟨e7,g7⟩|⟨e7,g7⟩
   all_goals
    conv=>lhs;rw [aH ho,e7];cbv;rw [aj ho n1 1];cbv;rw [aj ho n1 2];cbv;rw [aj ho n1 3];cbv;rw [cQ ho n1 4];cbv
    rcases aR n2 0 20 with ⟨e13,g13⟩|⟨e13,g13⟩
    all_goals
     conv=>lhs;rw [aH ho,e13];cbv
     subst Q;clear hC hP hI;subst hop;simp_all [aQ]<;>omega
theorem HO (hop:n1=5):o.call 317 [.agg [Al a0_0,Al a0_1],.agg [As a1_0,Ai a1_1,Ai a1_2,Al a1_3],Ai a2] []=Ar (Ab (aQ o a0_0 a0_1 a1_2 a1_3.length (a2+1) n1 n2 s1 n3)):=by
 refine ho.aI fun R Q=> ?_
 have e1:=av ho h20 hI;conv=>lhs;cbv;rw [e1];cbv
 rcases aP ho s1 ⟨#[]⟩with ⟨e2,g2⟩|⟨e2,g2⟩<;>(conv=>lhs;rw [e2];cbv)
 ·conv=>lhs;(try (rw [e2];cbv));rw [aj ho n1 1];cbv;rw [aj ho n1 2];cbv;rw [aj ho n1 3];cbv;rw [aj ho n1 4];cbv;rw [cQ ho n1 5];cbv
  subst Q;clear hC hP hI;subst hop;simp_all [aQ]<;>omega
 ·rcases ak ho n3 0 with ⟨e3,g3⟩|⟨e3,g3⟩<;>(conv=>lhs;rw [e3];cbv)
  ·obtain ⟨n4,e4,g4⟩:=bA ho a2 1;obtain ⟨n5,e5,g5⟩:=aB ho a1_3;obtain ⟨n6,e6,g6⟩:=aS ho n5 1;conv=>lhs;(try (rw [e2];cbv));rw [e4];cbv;rw [e5];cbv;rw [e6];cbv
   rcases aR n3 n4 n6 with ⟨e7,g7⟩|⟨e7,g7⟩
   all_goals
    conv=>lhs;rw [aH ho,e7];cbv;rw [aj ho n1 1];cbv;rw [aj ho n1 2];cbv;rw [aj ho n1 3];cbv;rw [aj ho n1 4];cbv;rw [cQ ho n1 5];cbv
    subst Q;clear hC hP hI;subst hop;simp_all [aQ]<;>omega
  ·obtain ⟨n4,e4,g4⟩:=bA ho a2 1;obtain ⟨n5,e5,g5⟩:=aB ho a1_3;obtain ⟨n6,e6,g6⟩:=aS ho n5 1;conv=>lhs;(try (rw [e2];cbv));rw [e4];cbv;rw [e5];cbv;rw [e6];cbv
   rcases aR n3 n4 n6 with ⟨e7,g7⟩|⟨e7,g7⟩
   all_goals
    conv=>lhs;rw [aH ho,e7];cbv;rw [aj ho n1 1];cbv;rw [aj ho n1 2];cbv;rw [aj ho n1 3];cbv;rw [aj ho n1 4];cbv;rw [cQ ho n1 5];cbv
    rcases aR n2 0 20 with ⟨e14,g14⟩|⟨e14,g14⟩
    all_goals
     conv=>lhs;rw [aH ho,e14];cbv
     subst Q;clear hC hP hI;subst hop;simp_all [aQ]<;>omega
theorem HS (hop:n1=6):o.call 317 [.agg [Al a0_0,Al a0_1],.agg [As a1_0,Ai a1_1,Ai a1_2,Al a1_3],Ai a2] []=Ar (Ab (aQ o a0_0 a0_1 a1_2 a1_3.length (a2+1) n1 n2 s1 n3)):=by
 refine ho.aI fun R Q=> ?_
 have e1:=av ho h20 hI;conv=>lhs;cbv;rw [e1];cbv
 rcases aP ho s1 ⟨#[]⟩with ⟨e2,g2⟩|⟨e2,g2⟩<;>(conv=>lhs;rw [e2];cbv)
 ·conv=>lhs;(try (rw [e2];cbv));rw [aj ho n1 1];cbv;rw [aj ho n1 2];cbv;rw [aj ho n1 3];cbv;rw [aj ho n1 4];cbv;rw [aj ho n1 5];cbv;rw [cQ ho n1 6];cbv
  subst Q;clear hC hP hI;subst hop;simp_all [aQ]<;>omega
 ·rcases ak ho n3 0 with ⟨e3,g3⟩|⟨e3,g3⟩<;>(conv=>lhs;rw [e3];cbv)
  ·obtain ⟨n4,e4,g4⟩:=bA ho a2 1;obtain ⟨n5,e5,g5⟩:=aB ho a1_3;obtain ⟨n6,e6,g6⟩:=aS ho n5 1;conv=>lhs;(try (rw [e2];cbv));rw [e4];cbv;rw [e5];cbv;rw [e6];cbv
   rcases aR n3 n4 n6 with ⟨e7,g7⟩|⟨e7,g7⟩
   all_goals
    conv=>lhs;rw [aH ho,e7];cbv;rw [aj ho n1 1];cbv;rw [aj ho n1 2];cbv;rw [aj ho n1 3];cbv;rw [aj ho n1 4];cbv;rw [aj ho n1 5];cbv;rw [cQ ho n1 6];cbv
    subst Q;clear hC hP hI;subst hop;simp_all [aQ]<;>omega
  ·obtain ⟨n4,e4,g4⟩:=bA ho a2 1;obtain ⟨n5,e5,g5⟩:=aB ho a1_3;obtain ⟨n6,e6,g6⟩:=aS ho n5 1;conv=>lhs;(try (rw [e2];cbv));rw [e4];cbv;rw [e5];cbv;rw [e6];cbv
   rcases aR n3 n4 n6 with ⟨e7,g7⟩|⟨e7,g7⟩
   all_goals
    conv=>lhs;rw [aH ho,e7];cbv;rw [aj ho n1 1];cbv;rw [aj ho n1 2];cbv;rw [aj ho n1 3];cbv;rw [aj ho n1 4];cbv;rw [aj ho n1 5];cbv;rw [cQ ho n1 6];cbv
    rcases aR n2 2 6 with ⟨e15,g15⟩|⟨e15,g15⟩
    all_goals
     conv=>lhs;rw [aH ho,e15];cbv
     subst Q;clear hC hP hI;subst hop;simp_all [aQ]<;>omega
end
end
section
variable {o:aK} (ho:aU cF bE o)
include ho
section
variable (a0_0 a0_1:List D) (a1_0:ByteArray) (a1_1 a1_2:Int) (a1_3:List D) (a2 n1 n2:Int) (s1:ByteArray) (n3:Int) (hI:a1_3[a2.toNat]? =some (.agg [.int .i64 n1,.int .i64 n2,.str s1,.int .i64 n3])) (h20:0<=a2) (h21:a2<a1_3.length) (hC:∀x∈a0_0,tH x) (hCb:(a0_0.length:Int)<=1048576) {m:Nat} (hP:∀x∈a0_1,Tm m x) (hPb:(a0_1.length:Int)<=1048576) (hs2:(s1.size:Int)<=1048576) (hf:0<=a1_2/\a1_2<=400) (hl3:(a1_3.length:Int)<=1048576)
include a0_0 a0_1 a1_0 a1_1 a1_2 a1_3 a2 n1 n2 s1 n3 hI h20 h21 hC hCb m hP hPb hs2 hf hl3
theorem HT (hop:n1=7):o.call 317 [.agg [Al a0_0,Al a0_1],.agg [As a1_0,Ai a1_1,Ai a1_2,Al a1_3],Ai a2] []=Ar (Ab (aQ o a0_0 a0_1 a1_2 a1_3.length (a2+1) n1 n2 s1 n3)):=by
 refine ho.aI fun R Q=> ?_
 have e1:=av ho h20 hI;conv=>lhs;cbv;rw [e1];cbv
 rcases aP ho s1 ⟨#[]⟩with ⟨e2,g2⟩|⟨e2,g2⟩<;>(conv=>lhs;rw [e2];cbv)
 ·conv=>lhs;(try (rw [e2];cbv));rw [aj ho n1 1];cbv;rw [aj ho n1 2];cbv;rw [aj ho n1 3];cbv;rw [aj ho n1 4];cbv;rw [aj ho n1 5];cbv;rw [aj ho n1 6];cbv;rw [cQ ho n1 7];cbv
  cases he10:jG s1
  ·have e10:o.call 360 [As s1] []=Ar (Ab false):=(yx ho s1).trans (by rw [he10]);conv=>lhs;rw [e10];cbv
   subst Q;try rw [he10]
   clear hC hP hI;subst hop;simp_all [aQ]<;>omega
  ·have e10:o.call 360 [As s1] []=Ar (Ab true):=(yx ho s1).trans (by rw [he10]);conv=>lhs;rw [e10];cbv
   rcases ak ho n2 0 with ⟨e11,g11⟩|⟨e11,g11⟩<;>(conv=>lhs;rw [e11];cbv)
   ·subst Q;try rw [he10]
    clear hC hP hI;subst hop;simp_all [aQ]<;>omega
   ·rcases ak ho n3 0 with ⟨e12,g12⟩|⟨e12,g12⟩<;>(conv=>lhs;rw [e12];cbv)
    all_goals
     subst Q;try rw [he10]
     clear hC hP hI;subst hop;simp_all [aQ]<;>omega
 ·rcases ak ho n3 0 with ⟨e3,g3⟩|⟨e3,g3⟩<;>(conv=>lhs;rw [e3];cbv)
  all_goals
   obtain ⟨n4,e4,g4⟩:=bA ho a2 1;obtain ⟨n5,e5,g5⟩:=aB ho a1_3;obtain ⟨n6,e6,g6⟩:=aS ho n5 1;conv=>lhs;(try (rw [e2];cbv));rw [e4];cbv;rw [e5];cbv;rw [e6];cbv
   rcases aR n3 n4 n6 with ⟨e7,g7⟩|⟨e7,g7⟩
   all_goals
    conv=>lhs;rw [aH ho,e7];cbv;rw [aj ho n1 1];cbv;rw [aj ho n1 2];cbv;rw [aj ho n1 3];cbv;rw [aj ho n1 4];cbv;rw [aj ho n1 5];cbv;rw [aj ho n1 6];cbv;rw [cQ ho n1 7];cbv
    cases he16:jG s1
    ·have e16:o.call 360 [As s1] []=Ar (Ab false):=(yx ho s1).trans (by rw [he16]);conv=>lhs;rw [e16];cbv
     subst Q;try rw [he16]
     clear hC hP hI;subst hop;simp_all [aQ]<;>omega
    ·have e16:o.call 360 [As s1] []=Ar (Ab true):=(yx ho s1).trans (by rw [he16]);conv=>lhs;rw [e16];cbv
     rcases ak ho n2 0 with ⟨e17,g17⟩|⟨e17,g17⟩<;>(conv=>lhs;rw [e17];cbv)
     ·subst Q;try rw [he16]
      clear hC hP hI;subst hop;simp_all [aQ]<;>omega
     ·conv=>lhs;(try (simp (disch:=omega) only [bG ho];cbv))
      subst Q;try rw [he16]
      clear hC hP hI;subst hop;simp_all [aQ]<;>omega
theorem HU (hop:n1=8):o.call 317 [.agg [Al a0_0,Al a0_1],.agg [As a1_0,Ai a1_1,Ai a1_2,Al a1_3],Ai a2] []=Ar (Ab (aQ o a0_0 a0_1 a1_2 a1_3.length (a2+1) n1 n2 s1 n3)):=by
 refine ho.aI fun R Q=> ?_
 have e1:=av ho h20 hI;conv=>lhs;cbv;rw [e1];cbv
 rcases aP ho s1 ⟨#[]⟩with ⟨e2,g2⟩|⟨e2,g2⟩<;>(conv=>lhs;rw [e2];cbv)
 ·obtain ⟨n4,hA,e11⟩:∃n4,ja a0_0 s1=n4/\o.call 85 [.agg [Al a0_0,Al a0_1],As s1] []=Ar (Ai n4):=⟨_,rfl,ru ho a0_0 a0_1 s1 hC hCb⟩
  have hAb:=oT a0_0 s1;conv=>lhs;(try (rw [e2];cbv));rw [aj ho n1 1];cbv;rw [aj ho n1 2];cbv;rw [aj ho n1 3];cbv;rw [aj ho n1 4];cbv;rw [aj ho n1 5];cbv;rw [aj ho n1 6];cbv;rw [aj ho n1 7];cbv;rw [cQ ho n1 8];cbv;rw [e11];cbv
  rcases iQ ho n4 0 with ⟨e12,g12⟩|⟨e12,g12⟩<;>(conv=>lhs;rw [e12];cbv)
  ·subst Q;clear hC hP hI;subst hop;simp_all [aQ]<;>omega
  ·obtain ⟨x,hx0,hx1,hx2⟩:=aD (xs:=a0_0) rfl (show 0<=n4 by omega) (by omega);obtain ⟨s2,n5,n6,l1,rfl,hz⟩:=hC _ hx2;have hv:g_ a0_0 n4=n5:=by unfold g_;rw [hx0]
   have e13:o.dm a0_0 n4=some (.agg [.str s2,.int .i64 n5,.int .i64 n6,.lst l1]):=av ho (by omega) hx0;conv=>lhs;rw [e13];cbv
   rcases ak ho n5 n2 with ⟨e14,g14⟩|⟨e14,g14⟩<;>(conv=>lhs;rw [e14];cbv)
   ·subst Q;clear hC hP hI;subst hop;simp_all [aQ]<;>omega
   ·rcases ak ho n3 0 with ⟨e15,g15⟩|⟨e15,g15⟩<;>(conv=>lhs;rw [e15];cbv)
    all_goals
     subst Q;clear hC hP hI;subst hop;simp_all [aQ]<;>omega
 ·rcases ak ho n3 0 with ⟨e3,g3⟩|⟨e3,g3⟩<;>(conv=>lhs;rw [e3];cbv)
  all_goals
   obtain ⟨n4,e4,g4⟩:=bA ho a2 1;obtain ⟨n5,e5,g5⟩:=aB ho a1_3;obtain ⟨n6,e6,g6⟩:=aS ho n5 1;conv=>lhs;(try (rw [e2];cbv));rw [e4];cbv;rw [e5];cbv;rw [e6];cbv
   rcases aR n3 n4 n6 with ⟨e7,g7⟩|⟨e7,g7⟩
   all_goals
    obtain ⟨n7,hA,e17⟩:∃n7,ja a0_0 s1=n7/\o.call 85 [.agg [Al a0_0,Al a0_1],As s1] []=Ar (Ai n7):=⟨_,rfl,ru ho a0_0 a0_1 s1 hC hCb⟩
    have hAb:=oT a0_0 s1;conv=>lhs;rw [aH ho,e7];cbv;rw [aj ho n1 1];cbv;rw [aj ho n1 2];cbv;rw [aj ho n1 3];cbv;rw [aj ho n1 4];cbv;rw [aj ho n1 5];cbv;rw [aj ho n1 6];cbv;rw [aj ho n1 7];cbv;rw [cQ ho n1 8];cbv;rw [e17];cbv
    rcases iQ ho n7 0 with ⟨e18,g18⟩|⟨e18,g18⟩<;>(conv=>lhs;rw [e18];cbv)
    ·subst Q;clear hC hP hI;subst hop;simp_all [aQ]<;>omega
    ·obtain ⟨x,hx0,hx1,hx2⟩:=aD (xs:=a0_0) rfl (show 0<=n7 by omega) (by omega);obtain ⟨s2,n8,n9,l1,rfl,hz⟩:=hC _ hx2;have hv:g_ a0_0 n7=n8:=by unfold g_;rw [hx0]
     have e19:o.dm a0_0 n7=some (.agg [.str s2,.int .i64 n8,.int .i64 n9,.lst l1]):=av ho (by omega) hx0;conv=>lhs;rw [e19];cbv
     rcases ak ho n8 n2 with ⟨e20,g20⟩|⟨e20,g20⟩<;>(conv=>lhs;rw [e20];cbv)
     ·subst Q;clear hC hP hI;subst hop;simp_all [aQ]<;>omega
     ·conv=>lhs;(try (simp (disch:=omega) only [bG ho];cbv))
      subst Q;clear hC hP hI;subst hop;simp_all [aQ]<;>omega
end
end
section
variable {o:aK} (ho:aU cF bE o)
include ho
section
variable (a0_0 a0_1:List D) (a1_0:ByteArray) (a1_1 a1_2:Int) (a1_3:List D) (a2 n1 n2:Int) (s1:ByteArray) (n3:Int) (hI:a1_3[a2.toNat]? =some (.agg [.int .i64 n1,.int .i64 n2,.str s1,.int .i64 n3])) (h20:0<=a2) (h21:a2<a1_3.length) (hC:∀x∈a0_0,tH x) (hCb:(a0_0.length:Int)<=1048576) {m:Nat} (hP:∀x∈a0_1,Tm m x) (hPb:(a0_1.length:Int)<=1048576) (hs2:(s1.size:Int)<=1048576) (hf:0<=a1_2/\a1_2<=400) (hl3:(a1_3.length:Int)<=1048576)
include a0_0 a0_1 a1_0 a1_1 a1_2 a1_3 a2 n1 n2 s1 n3 hI h20 h21 hC hCb m hP hPb hs2 hf hl3
theorem HV (hop:n1=9):o.call 317 [.agg [Al a0_0,Al a0_1],.agg [As a1_0,Ai a1_1,Ai a1_2,Al a1_3],Ai a2] []=Ar (Ab (aQ o a0_0 a0_1 a1_2 a1_3.length (a2+1) n1 n2 s1 n3)):=by
 refine ho.aI fun R Q=> ?_
 have e1:=av ho h20 hI;conv=>lhs;cbv;rw [e1];cbv
 rcases aP ho s1 ⟨#[]⟩with ⟨e2,g2⟩|⟨e2,g2⟩<;>(conv=>lhs;rw [e2];cbv)
 ·conv=>lhs;(try (rw [e2];cbv));rw [aj ho n1 1];cbv;rw [aj ho n1 2];cbv;rw [aj ho n1 3];cbv;rw [aj ho n1 4];cbv;rw [aj ho n1 5];cbv;rw [aj ho n1 6];cbv;rw [aj ho n1 7];cbv;rw [aj ho n1 8];cbv;rw [cQ ho n1 9];cbv
  subst Q;clear hC hP hI;subst hop;simp_all [aQ]<;>omega
 ·rcases ak ho n3 0 with ⟨e3,g3⟩|⟨e3,g3⟩<;>(conv=>lhs;rw [e3];cbv)
  all_goals
   obtain ⟨n4,e4,g4⟩:=bA ho a2 1;obtain ⟨n5,e5,g5⟩:=aB ho a1_3;obtain ⟨n6,e6,g6⟩:=aS ho n5 1;conv=>lhs;(try (rw [e2];cbv));rw [e4];cbv;rw [e5];cbv;rw [e6];cbv
   rcases aR n3 n4 n6 with ⟨e7,g7⟩|⟨e7,g7⟩
   ·conv=>lhs;rw [aH ho,e7];cbv;rw [aj ho n1 1];cbv;rw [aj ho n1 2];cbv;rw [aj ho n1 3];cbv;rw [aj ho n1 4];cbv;rw [aj ho n1 5];cbv;rw [aj ho n1 6];cbv;rw [aj ho n1 7];cbv;rw [aj ho n1 8];cbv;rw [cQ ho n1 9];cbv
    subst Q;clear hC hP hI;subst hop;simp_all [aQ]<;>omega
   ·obtain ⟨n7,e18,g18⟩:=aB ho a0_1;obtain ⟨n8,e19,g19⟩:=aS ho n7 1;conv=>lhs;rw [aH ho,e7];cbv;rw [aj ho n1 1];cbv;rw [aj ho n1 2];cbv;rw [aj ho n1 3];cbv;rw [aj ho n1 4];cbv;rw [aj ho n1 5];cbv;rw [aj ho n1 6];cbv;rw [aj ho n1 7];cbv;rw [aj ho n1 8];cbv;rw [cQ ho n1 9];cbv;rw [e18];cbv;rw [e19];cbv
    rcases aR n2 0 n8 with ⟨e20,g20⟩|⟨e20,g20⟩
    ·conv=>lhs;rw [aH ho,e20];cbv
     subst Q;clear hC hP hI;subst hop;simp_all [aQ]<;>omega
    ·obtain ⟨x,hx0,hx1,hx2⟩:=aD (xs:=a0_1) rfl (show 0<=n2 by omega) (by omega);obtain ⟨m',n9,n10,s2,l1,hd',rfl,hs,hl,ht⟩:=dc (hP _ hx2);have hTp:=hP _ hx2;have hv:DG o a0_1 n2 a1_2=p_ o (.agg [.int .i64 n9,.int .i64 n10,.str s2,.lst l1]) a1_2:=by unfold DG;rw [hx0]
     have e22:o.dm a0_1 n2=some (.agg [.int .i64 n9,.int .i64 n10,.str s2,.lst l1]):=av ho (by omega) hx0;obtain ⟨b14,he23⟩:∃b:Bool,p_ o (.agg [.int .i64 n9,.int .i64 n10,.str s2,.lst l1]) a1_2=b:=⟨_,rfl⟩
     have e23:o.call 361 [At n9 n10 s2 l1,Ai a1_2] []=Ar (Ab b14):=(DA ho _ _ _ _ hTp a1_2).trans (by rw [he23]);conv=>lhs;rw [aH ho,e20];cbv;rw [e22];cbv;rw [e23];cbv
     subst Q;clear hC hP hI;subst hop;simp_all [aQ]<;>omega
theorem EK (hop:n1=10):o.call 317 [.agg [Al a0_0,Al a0_1],.agg [As a1_0,Ai a1_1,Ai a1_2,Al a1_3],Ai a2] []=Ar (Ab (aQ o a0_0 a0_1 a1_2 a1_3.length (a2+1) n1 n2 s1 n3)):=by
 refine ho.aI fun R Q=> ?_
 have e1:=av ho h20 hI;conv=>lhs;cbv;rw [e1];cbv
 rcases aP ho s1 ⟨#[]⟩with ⟨e2,g2⟩|⟨e2,g2⟩<;>(conv=>lhs;rw [e2];cbv)
 ·conv=>lhs;(try (rw [e2];cbv));rw [aj ho n1 1];cbv;rw [aj ho n1 2];cbv;rw [aj ho n1 3];cbv;rw [aj ho n1 4];cbv;rw [aj ho n1 5];cbv;rw [aj ho n1 6];cbv;rw [aj ho n1 7];cbv;rw [aj ho n1 8];cbv;rw [aj ho n1 9];cbv;rw [cQ ho n1 10];cbv
  subst Q;clear hC hP hI;subst hop;simp_all [aQ]<;>omega
 ·rcases ak ho n3 0 with ⟨e3,g3⟩|⟨e3,g3⟩<;>(conv=>lhs;rw [e3];cbv)
  all_goals
   obtain ⟨n4,e4,g4⟩:=bA ho a2 1;obtain ⟨n5,e5,g5⟩:=aB ho a1_3;obtain ⟨n6,e6,g6⟩:=aS ho n5 1;conv=>lhs;(try (rw [e2];cbv));rw [e4];cbv;rw [e5];cbv;rw [e6];cbv
   rcases aR n3 n4 n6 with ⟨e7,g7⟩|⟨e7,g7⟩
   ·conv=>lhs;rw [aH ho,e7];cbv;rw [aj ho n1 1];cbv;rw [aj ho n1 2];cbv;rw [aj ho n1 3];cbv;rw [aj ho n1 4];cbv;rw [aj ho n1 5];cbv;rw [aj ho n1 6];cbv;rw [aj ho n1 7];cbv;rw [aj ho n1 8];cbv;rw [aj ho n1 9];cbv;rw [cQ ho n1 10];cbv
    subst Q;clear hC hP hI;subst hop;simp_all [aQ]<;>omega
   ·conv=>lhs;rw [aH ho,e7];cbv;rw [aj ho n1 1];cbv;rw [aj ho n1 2];cbv;rw [aj ho n1 3];cbv;rw [aj ho n1 4];cbv;rw [aj ho n1 5];cbv;rw [aj ho n1 6];cbv;rw [aj ho n1 7];cbv;rw [aj ho n1 8];cbv;rw [aj ho n1 9];cbv;rw [cQ ho n1 10];cbv
    rcases ak ho n2 0 with ⟨e19,g19⟩|⟨e19,g19⟩<;>(conv=>lhs;rw [e19];cbv)
    all_goals
     subst Q;clear hC hP hI;subst hop;simp_all [aQ]<;>omega
end
end
section
variable {o:aK} (ho:aU cF bE o)
include ho
theorem KL (a0_0 a0_1:List D) (a1_0:ByteArray) (a1_1 a1_2:Int) (a1_3:List D) (a2 n1 n2:Int) (s1:ByteArray) (n3:Int) (hI:a1_3[a2.toNat]? =some (.agg [.int .i64 n1,.int .i64 n2,.str s1,.int .i64 n3])) (h20:0<=a2) (h21:a2<a1_3.length) (hC:∀x∈a0_0,tH x) (hCb:(a0_0.length:Int)<=1048576) {m:Nat} (hP:∀x∈a0_1,Tm m x) (hPb:(a0_1.length:Int)<=1048576) (hs2:(s1.size:Int)<=1048576) (hf:0<=a1_2/\a1_2<=400) (hl3:(a1_3.length:Int)<=1048576):o.call 317 [.agg [Al a0_0,Al a0_1],.agg [As a1_0,Ai a1_1,Ai a1_2,Al a1_3],Ai a2] []=Ar (Ab (aQ o a0_0 a0_1 a1_2 a1_3.length (a2+1) n1 n2 s1 n3)):=by
 by_cases h1:n1=1
 ·exact HK ho a0_0 a0_1 a1_0 a1_1 a1_2 a1_3 a2 n1 n2 s1 n3 hI h20 h21 hC hCb hP hPb hs2 hf hl3 h1
 by_cases h2:n1=2
 ·exact HL ho a0_0 a0_1 a1_0 a1_1 a1_2 a1_3 a2 n1 n2 s1 n3 hI h20 h21 hC hCb hP hPb hs2 hf hl3 h2
 by_cases h3:n1=3
 ·exact HM ho a0_0 a0_1 a1_0 a1_1 a1_2 a1_3 a2 n1 n2 s1 n3 hI h20 h21 hC hCb hP hPb hs2 hf hl3 h3
 by_cases h4:n1=4
 ·exact HN ho a0_0 a0_1 a1_0 a1_1 a1_2 a1_3 a2 n1 n2 s1 n3 hI h20 h21 hC hCb hP hPb hs2 hf hl3 h4
 by_cases h5:n1=5
 ·exact HO ho a0_0 a0_1 a1_0 a1_1 a1_2 a1_3 a2 n1 n2 s1 n3 hI h20 h21 hC hCb hP hPb hs2 hf hl3 h5
 by_cases h6:n1=6
 ·exact HS ho a0_0 a0_1 a1_0 a1_1 a1_2 a1_3 a2 n1 n2 s1 n3 hI h20 h21 hC hCb hP hPb hs2 hf hl3 h6
 by_cases h7:n1=7
 ·exact HT ho a0_0 a0_1 a1_0 a1_1 a1_2 a1_3 a2 n1 n2 s1 n3 hI h20 h21 hC hCb hP hPb hs2 hf hl3 h7
 by_cases h8:n1=8
 ·exact HU ho a0_0 a0_1 a1_0 a1_1 a1_2 a1_3 a2 n1 n2 s1 n3 hI h20 h21 hC hCb hP hPb hs2 hf hl3 h8
 by_cases h9:n1=9
 ·exact HV ho a0_0 a0_1 a1_0 a1_1 a1_2 a1_3 a2 n1 n2 s1 n3 hI h20 h21 hC hCb hP hPb hs2 hf hl3 h9
 by_cases h10:n1=10
 ·exact EK ho a0_0 a0_1 a1_0 a1_1 a1_2 a1_3 a2 n1 n2 s1 n3 hI h20 h21 hC hCb hP hPb hs2 hf hl3 h10
 exact HJ ho a0_0 a0_1 a1_0 a1_1 a1_2 a1_3 a2 n1 n2 s1 n3 hI h20 h21 hC hCb hP hPb hs2 hf hl3 (by omega)
end
end T2
namespace T2
open Go Go.Vi
theorem ny {o:aK} {fns ps:List D} {sl n lo op N to:Int} {s:ByteArray} (h:aQ o fns ps sl n lo op N s to=true):
  1<=op/\op<=12/\((op=9\/op=10)->lo<=to/\to<=n-1)/\(op≠8->0<=tk op N/\tk op N<=20)/\(op=8->0<=ja fns s/\g_ fns (ja fns s)=N):=by
 unfold aQ at h;have t:∀{a b:Bool},(a&&b)=true->a=true/\b=true:=fun h=>by simpa using h
 by_cases h1:op=1
 ·subst h1;exact ⟨by omega,by omega,by omega,fun _=>by simp [tk],by omega⟩
 rw [if_neg h1]at h;by_cases h2:op=2
 ·subst h2;exact ⟨by omega,by omega,by omega,fun _=>by simp [tk],by omega⟩
 rw [if_neg h2]at h;by_cases h3:op=3
 ·subst h3;exact ⟨by omega,by omega,by omega,fun _=>by simp [tk],by omega⟩
 rw [if_neg h3]at h;by_cases h4:op=4
 ·subst h4;rw [if_pos rfl]at h;have:=cT (t h).2;exact ⟨by omega,by omega,by omega,fun _=>by simp [tk];omega,by omega⟩
 rw [if_neg h4]at h;by_cases h5:op=5
 ·subst h5;rw [if_pos rfl]at h;have:=cT (t h).2;exact ⟨by omega,by omega,by omega,fun _=>by simp [tk];omega,by omega⟩
 rw [if_neg h5]at h;by_cases h6:op=6
 ·subst h6;rw [if_pos rfl]at h;have:=cT (t h).2;exact ⟨by omega,by omega,by omega,fun _=>by simp [tk];omega,by omega⟩
 rw [if_neg h6]at h;by_cases h7:op=7
 ·subst h7;exact ⟨by omega,by omega,by omega,fun _=>by simp [tk],by omega⟩
 rw [if_neg h7]at h;by_cases h8:op=8
 ·subst h8;rw [if_pos rfl]at h;exact ⟨by omega,by omega,by omega,fun h=>absurd rfl h,fun _=>⟨of_decide_eq_true (t (t h).1).1,of_decide_eq_true (t (t h).1).2⟩⟩
 rw [if_neg h8]at h;by_cases h9:op=9
 ·subst h9;rw [if_pos rfl]at h;exact ⟨by omega,by omega,fun _=>cT (t (t (t h).1).1).2,fun _=>by simp [tk],by omega⟩
 rw [if_neg h9]at h;by_cases h10:op=10
 ·subst h10;rw [if_pos rfl]at h;exact ⟨by omega,by omega,fun _=>cT (t (t h).1).2,fun _=>by simp [tk],by omega⟩
 rw [if_neg h10]at h;by_cases h11:op=11
 ·subst h11;exact ⟨by omega,by omega,by omega,fun _=>by simp [tk],by omega⟩
 rw [if_neg h11]at h;by_cases h12:op=12
 ·subst h12;exact ⟨by omega,by omega,by omega,fun _=>by simp [tk],by omega⟩
 rw [if_neg h12]at h;cases h
theorem HW {o:aK} {fns ps:List D} {sl n lo lo' op N to:Int} {s:ByteArray} (h:aQ o fns ps sl n lo op N s to=true) (h2:(op=9\/op=10)->lo'<=to):aQ o fns ps sl n lo' op N s to=true:=by
 have ho:=ny h;by_cases h9:op=9\/op=10
 ·have e:i_ to lo (n-1)=i_ to lo' (n-1):=by rw [eO (ho.2.2.1 h9),eO ⟨h2 h9,(ho.2.2.1 h9).2⟩]
  unfold aQ at h |-;rw [<-e];exact h
 ·unfold aQ at h |-;rw [if_neg (by omega:¬op=9),if_neg (by omega:¬op=10)]at h |-;exact h
noncomputable def tq (o:aK) (fns ps:List D) (sl:Int) (xs:List D) (z:Bool) (i:Int):Bool:=match xs[i.toNat]? with
 | some (.agg [.int _ op,.int _ N,.str s,.int _ to])=>aQ o fns ps sl xs.length (if z then i+1 else 0) op N s to
 | _=>false
theorem xX {o:aK} {fns ps xs:List D} {sl i op N to:Int} {s:ByteArray} {z:Bool} (h:xs[i.toNat]? =some (.agg [.int .i64 op,.int .i64 N,.str s,.int .i64 to])):tq o fns ps sl xs z i=aQ o fns ps sl xs.length (if z then i+1 else 0) op N s to:=by unfold tq;rw [h]
def JZ (n:Int) (xs:List D) (i:Int):Prop:=∀k:Nat,∀x,xs[k]? =some x->Mv n (i+k) x
theorem zK {n:Int}:∀(xs:List D) (i:Int),JZ n xs i->oS n xs i
 | [],_,_=>trivial
 | x::xs,i,h=>⟨by have:=h 0 x rfl;simpa using this,zK xs (i+1) fun k y hy=>by have:=h (k+1) y hy;rw [show i+1+(k:Int)=i+(k+1:Nat) by omega];exact this⟩
theorem zL {n:Int}:∀(xs:List D) (i:Int),oS n xs i->JZ n xs i
 | [],_,_,k,x,hx=>by simp at hx
 | y::xs,i,h,0,x,hx=>by simp at hx;subst hx;simpa using h.1
 | y::xs,i,h,k+1,x,hx=>by have:=zL xs (i+1) h.2 k x hx;rw [show i+1+(k:Int)=i+(k+1:Nat) by omega]at this;exact this
theorem xY {o:aK} {n:Int}:∀(xs:List D) (i:Int) (H:List Int),mg o n xs i H=true->∀k:Nat,∀op N s to,xs[k]? =some (.agg [.int .i64 op,.int .i64 N,.str s,.int .i64 to])->(op=9\/op=10)->i+k<to
 | [],_,_,_,k,op,N,s,to,hx,_=>by simp at hx
 | y::xs,i,H,h,k,op,N,s,to,hx,hop=>by
  unfold mg at h;split at h
  ·rename_i he;cases he
  ·rename_i xs' i' H' k1 op' k2 N' s' k3 to' xs2 he;injection he with he1 he2;subst he1 he2;split at h
   ·cases h
   split at h
   ·cases h
   rename_i K hK;cases k with
   | zero=>
    simp at hx;obtain ⟨⟨_,rfl⟩,⟨_,rfl⟩,rfl,_,rfl⟩:=hx;unfold cD at hK;split at hK
    ·cases hK
    rcases hop with rfl | rfl
    ·rw [if_pos rfl]at hK;split at hK
     ·cases hK
     ·simp;omega
    ·rw [if_neg (by omega),if_pos rfl]at hK;split at hK
     ·cases hK
     ·simp;omega
   | succ k=>
    have:=xY _ _ K h k op N s to hx hop;omega
  ·cases h
theorem EL {o:aK} (ho:aU cF bE o) {n:Int}:∀(xs:List D) (i:Int) (H:List Int),0<=i->(H.length:Int)=n->i+xs.length=n->oS n xs i->qb o n xs i H=true->
  ∃F:List Int,(F.length:Int)=n/\(∀j,0<=j->gt H j≠ -1->gt F j=gt H j)/\∀k:Nat,∀op N s to,xs[k]? =some (.agg [.int .i64 op,.int .i64 N,.str s,.int .i64 to])->
   tk op N<=gt F (i+k)/\gt F (i+k)<=300/\(op=12->gt F (i+k)=1)/\(op=10->gt F to=gt F (i+k))/\(op=9->gt F to=gt F (i+k)/\i+k+1<n/\gt F (i+k+1)=gt F (i+k)-1)/\(op<=8->i+k+1<n/\gt F (i+k+1)=gt F (i+k)-tk op N+1):=by
 intro xs;induction xs with
 | nil=>intro i H h0 hn hl _ _;exact ⟨H,hn,fun _ _ _=>rfl,fun k op N s to hx=>by simp at hx⟩
 | cons x xs ih=>
  intro i H h0 hn hl hok hr;obtain ⟨⟨op,N,s,to,rfl,o1,o2,t1,t2,hto⟩,hok2⟩:=hok;rw [fR]at hr;simp only [List.length_cons]at hl;cases e:bW o n H op N to i with
  | none=>rw [e]at hr;cases hr
  | some K=>
   rw [e]at hr;obtain ⟨k1,k2⟩:=uo hn h0 hto e;obtain ⟨F,f1,f2,f3⟩:=ih (i+1) K (by omega) k1 (by omega) hok2 hr;refine ⟨F,f1,fun j g0 g1=>by rw [f2 j g0 (by rw [k2 j g0 g1];exact g1),k2 j g0 g1],?_⟩;intro k op' N' s' to' hx;cases k with
   | succ k=>
    have:=f3 k op' N' s' to' hx;rw [show i+1+(k:Int)=i+(k+1:Nat) by omega]at this;exact this
   | zero=>
    simp only [List.getElem?_cons_zero,Option.some.injEq,D.agg.injEq,List.cons.injEq,D.int.injEq,D.str.injEq,true_and,and_true]at hx;obtain ⟨rfl,rfl,rfl,rfl⟩:=hx;simp only [Int.natCast_zero,Int.add_zero];unfold bW at e;by_cases c1:gt H i<tk op N
    ·rw [if_pos c1]at e;cases e
    rw [if_neg c1]at e;by_cases c2:300<gt H i
    ·rw [if_pos c2]at e;cases e
    rw [if_neg c2]at e;have hF:gt F i=gt H i:=by rw [f2 i h0 (by rw [k2 i h0 (by omega)];omega),k2 i h0 (by omega)]
    have come:∀{J M:List Int} {a h:Int},(J.length:Int)=n->0<=a->a<n->0<=h->cm (dn J a h)=some M->gt M a=h:=by
     intro J M a h hJ a0 a1 hh hc;obtain ⟨c1,rfl⟩:=mo hc;unfold dn at c1 |-;split
     ·rw [jU hJ a0 a1 a0,if_pos rfl]
     ·rename_i hne;rw [if_neg hne]at c1;simpa using c1
    have pick:∀{a h:Int},0<=a->0<=h->gt K a=h->gt F a=h:=fun a0 hh e=>by rw [f2 _ a0 (by omega),e]
    rw [hF];have hs1:o.ar .sub .i64 (gt H i) 1=gt H i-1:=fP ho (by omega) (by omega);have hs2:o.ar .sub .i64 (gt H i) (tk op N)=gt H i-tk op N:=fP ho (by omega) (by omega);have hs3:o.ar .add .i64 (gt H i-tk op N) 1=gt H i-tk op N+1:=cM ho (by omega) (by omega);refine ⟨by omega,by omega,?_⟩;by_cases h12:op=12
    ·subst h12;rw [if_pos rfl]at e;split at e
     ·refine ⟨fun _=>by assumption,by omega,by omega,by omega⟩
     ·cases e
    rw [if_neg h12]at e;by_cases h11:op=11
    ·exact ⟨by omega,by omega,by omega,by omega⟩
    rw [if_neg h11]at e;by_cases h10:op=10
    ·subst h10;rw [if_pos rfl]at e;have hb:=hto (.inr rfl);exact ⟨by omega,fun _=>pick (by omega) (by omega) (come hn (by omega) (by omega) (by omega) e),by omega,by omega⟩
    rw [if_neg h10]at e;by_cases h9:op=9
    ·subst h9;rw [if_pos rfl]at e;have hb:=hto (.inl rfl);have tk9:tk 9 N=1:=by unfold tk;simp
     cases c:cm (dn H to (gt H i))with
     | none=>rw [c]at e;cases e
     | some J=>
      rw [c,Option.bind_some]at e;have l2:(J.length:Int)=n:=by obtain ⟨_,rfl⟩:=mo c;rw [fw];exact hn
      by_cases hin:i+1<n
      ·rw [if_pos hin,hs1]at e;have j1:gt J to=gt H i:=come hn (by omega) (by omega) (by omega) c;have j2:gt K to=gt H i:=by
        obtain ⟨_,rfl⟩:=mo e;rw [jV l2 (by omega) hin (by omega) (by omega),j1]
       exact ⟨by omega,by omega,fun _=>⟨pick (by omega) (by omega) j2,hin,pick (by omega) (by omega) (come l2 (by omega) hin (by omega) e)⟩,by omega⟩
      ·rw [if_neg hin]at e;cases e
    rw [if_neg h9]at e;have hlv:lv op=1:=by unfold lv;rw [if_pos (by omega)]
    rw [hs2,hlv,hs3]at e;by_cases hin:i+1<n
    ·rw [if_pos hin]at e;exact ⟨by omega,by omega,by omega,fun _=>⟨hin,pick (by omega) (by omega) (come hn (by omega) hin (by omega) e)⟩⟩
    ·rw [if_neg hin]at e;cases e
def KM (xs:List D) (F:List Int):Prop:=(F.length:Int)=xs.length/\gt F 0=0/\∀i op N s to,0<=i->xs[i.toNat]? =some (.agg [.int .i64 op,.int .i64 N,.str s,.int .i64 to])->
 tk op N<=gt F i/\gt F i<=300/\(op=12->gt F i=1)/\(op=10->gt F to=gt F i)/\(op=9->gt F to=gt F i/\i+1<xs.length/\gt F (i+1)=gt F i-1)/\(op<=8->i+1<xs.length/\gt F (i+1)=gt F i-tk op N+1)
theorem CC {o:aK} (ho:aU cF bE o) {xs:List D} (h1:1<=(xs.length:Int)) (hok:oS xs.length xs 0) (h:EA o xs=true):∃F,KM xs F:=by
 have hH:=um (n:=(xs.length:Int)) (by omega);obtain ⟨F,f1,f2,f3⟩:=EL ho xs 0 _ (Int.le_refl _) (by rw [List.length_set];exact hH) (by omega) hok h;refine ⟨F,f1,?_,fun i op N s to h0 hx=> ?_⟩
 ·have e:gt ((H0 (xs.length:Int)).set 0 0) 0=0:=by
   rw [show ((0:Nat))=(0:Int).toNat from rfl,jU hH (Int.le_refl _) (by omega) (Int.le_refl _),if_pos rfl]
  rw [f2 0 (Int.le_refl _) (by rw [e];omega),e]
 ·have:=f3 i.toNat op N s to hx;rw [show (0:Int)+(i.toNat:Int)=i by omega]at this;exact this
theorem EM {xs:List D} {F:List Int} (h:KM xs F) {op N to:Int} {s:ByteArray} (h1:1<=(xs.length:Int)) (hok:oS xs.length xs 0) (hx:xs[((xs.length:Int)-1).toNat]? =some (.agg [.int .i64 op,.int .i64 N,.str s,.int .i64 to])):op=12\/op=11:=by
 obtain ⟨op',N',s',to',e,o1,o2,t1,t2,hto⟩:=zL xs 0 hok _ _ hx;injection e with e;simp only [List.cons.injEq,D.int.injEq,D.str.injEq,true_and,and_true]at e;obtain ⟨rfl,rfl,rfl,rfl⟩:=e;have hq:=h.2.2 ((xs.length:Int)-1) op N s to (by omega) hx;rcases Decidable.em (op=9)with h9 | h9
 ·have:=(hq.2.2.2.2.1 h9).2.1;omega
 rcases Decidable.em (op=10)with h10 | h10
 ·have:=hto (.inr h10);omega
 rcases Decidable.em (op<=8)with h8 | h8
 ·have:=(hq.2.2.2.2.2 h8).1;omega
 omega
theorem CD {P:Int->Bool} {n:Int} (hn:0<=n) (h:∀i,0<=i->i<n->P i=true):eU P 0 n=true:=by
 rw [Kz (Q:=fun _=>true) (fun i h0 h1=>h i h0 h1) 0 (Int.le_refl _) hn];have:∀i,0<=i->i<=n->eU (fun _=>true) i n=true:=down n (iq (Int.le_refl _)) fun i h0 h1 ih=>by rw [rq h1,ih];rfl
 exact this 0 (Int.le_refl _) hn
def ur (xs:List D):Bool:=match xs[((xs.length:Int)-1).toNat]? with | some (.agg (.int _ op::_))=>decide (op=12) || decide (op=11) | _=>false
noncomputable def wu (o:aK) (fns ps:List D) (z:Bool) (nm:ByteArray) (a sl:Int) (xs:List D):Bool:=
 gh o nm&&(i_ a 0 4&&(i_ sl a 400&&(i_ xs.length 1 1500&&(eU (tq o fns ps sl xs z) 0 xs.length&&if z then EA o xs&&ur xs else JV o xs))))
noncomputable def EN (o:aK) (fns ps:List D) (z:Bool) (i:Int):Bool:=match fns[i.toNat]? with | some (.agg [.str nm,.int _ a,.int _ sl,.lst xs])=>decide (ja fns nm=i)&&wu o fns ps z nm a sl xs | _=>false
theorem CF {o:aK} {fns ps xs:List D} {z:Bool} {i a sl:Int} {nm:ByteArray} (h:fns[i.toNat]? =some (.agg [.str nm,.int .i64 a,.int .i64 sl,.lst xs])):EN o fns ps z i=(decide (ja fns nm=i)&&wu o fns ps z nm a sl xs):=by unfold EN;rw [h]
noncomputable def ef (o:aK) (fns ps:List D) (z:Bool):Bool:=decide ((fns.length:Int)<=12)&&(decide ((ps.length:Int)<=2000)&&eU (EN o fns ps z) 0 fns.length)
theorem ba {a b:Bool} (h:(a&&b)=true):a=true/\b=true:=by simpa using h
section
variable {o:aK} {fns ps:List D} (hC:∀x∈fns,tH x)
include hC
theorem xZ {z:Bool} (h:ef o fns ps z=true) {i:Int} (h0:0<=i) (h1:i<fns.length):
  ∃nm a sl xs,fns[i.toNat]? =some (.agg [.str nm,.int .i64 a,.int .i64 sl,.lst xs])/\(∀y∈xs,Bu y)/\ja fns nm=i/\gh o nm=true/\(0<=a/\a<=4)/\(a<=sl/\sl<=400)/\(1<=(xs.length:Int)/\(xs.length:Int)<=1500)/\eU (tq o fns ps sl xs z) 0 xs.length=true/\(if z then EA o xs&&ur xs else JV o xs)=true:=by
 have hg:=zG (ba (ba h).2).2 i h0 h1;have hx:i.toNat<fns.length:=by omega
 obtain ⟨nm,a,sl,xs,e,_,_,hy⟩:=hC _ (List.getElem_mem hx);have hg0:fns[i.toNat]? =some (.agg [.str nm,.int .i64 a,.int .i64 sl,.lst xs]):=by rw [aN hx,e]
 rw [CF hg0]at hg;have ⟨g1,g2⟩:=ba hg;unfold wu at g2;have ⟨g3,g4⟩:=ba g2;have ⟨g5,g6⟩:=ba g4;have ⟨g7,g8⟩:=ba g6;have ⟨g9,g10⟩:=ba g8;have ⟨g11,g12⟩:=ba g10;exact ⟨nm,a,sl,xs,hg0,fun y hy'=>(hy y hy').1,of_decide_eq_true g1,g3,cT g5,cT g7,cT g9,g11,g12⟩
theorem wZ {z:Bool} (h:ef o fns ps z=true) {i:Int} (h0:0<=i) (h1:i<fns.length):0<=g_ fns i/\g_ fns i<=4:=by
 obtain ⟨nm,a,sl,xs,hg,_,_,_,ha,_⟩:=xZ hC h h0 h1;unfold g_;rw [hg];exact ha
omit hC in
theorem uw {xs:List D} {z:Bool} {sl:Int} (hd:∀y∈xs,Bu y) (ha:eU (tq o fns ps sl xs z) 0 xs.length=true) {k:Nat} {x:D} (hk:xs[k]? =some x):
  ∃op N s to,x= .agg [.int .i64 op,.int .i64 N,.str s,.int .i64 to]/\aQ o fns ps sl xs.length (if z then (k:Int)+1 else 0) op N s to=true:=by
 obtain ⟨op,N,s,to,rfl⟩:=hd x (List.mem_of_getElem? hk);obtain ⟨hlt,_⟩:=ai.1 hk;have:=zG ha k (by omega) (by omega);rw [xX (by rw [Int.toNat_natCast];exact hk)]at this;exact ⟨op,N,s,to,rfl,this⟩
theorem CG {z:Bool} (h:ef o fns ps z=true) {xs:List D} {sl:Int} (hd:∀y∈xs,Bu y) (ha:eU (tq o fns ps sl xs z) 0 xs.length=true) (hz:z=false->JV o xs=true):oS xs.length xs 0:=by
 refine zK _ _ fun k x hk=> ?_
 obtain ⟨op,N,s,to,rfl,hp⟩:=uw hd ha hk;have hq:=ny hp;have htk:0<=tk op N/\tk op N<=400:=by
  by_cases h8:op=8
  ·have h9:=hq.2.2.2.2 h8;have hb:=oT fns s;have:=wZ hC h (i:=ja fns s) h9.1 (by omega);have e:tk op N=N:=by unfold tk;rw [if_pos (by omega)]
   omega
  ·have:=hq.2.2.2.1 h8;omega
 refine ⟨op,N,s,to,rfl,hq.1,hq.2.1,htk.1,htk.2,fun h9=> ?_⟩;have:=hq.2.2.1 h9;cases z
 ·have h2:=xY xs 0 _ (hz rfl) k op N s to hk h9;exact ⟨h2,by omega⟩
 ·rw [if_pos rfl]at this;exact ⟨by omega,by omega⟩
theorem EO (ho:aU cF bE o):ef o fns ps false=ef o fns ps true:=by
 have key:∀z w,ef o fns ps z=true->ef o fns ps w=true:=by
  intro z w h;have ⟨h1,h2⟩:=ba h;have ⟨h3,h4⟩:=ba h2;unfold ef;rw [h1,h3,Bool.true_and,Bool.true_and];refine CD (by omega) fun i i0 i1=> ?_
  obtain ⟨nm,a,sl,xs,hg,hd,hA,hX,ha,hs,hl,hI,hH⟩:=xZ hC h i0 i1;have hok:=CG hC h hd hI (fun e=>by subst e;exact hH);have he:=Mw ho hl.1 (by omega) hok;have hI2:JV o xs=true:=by
   cases z
   ·exact hH
   ·rw [he];exact (ba hH).1
  have hS:EA o xs=true:=by rw [<-he];exact hI2
  rw [CF hg,hA,decide_eq_true rfl,Bool.true_and];unfold wu;rw [hX,eO ha,eO hs,eO hl];simp only [Bool.true_and,ah];constructor
  ·refine CD (by omega) fun k k0 k1=> ?_
   obtain ⟨op,N,s,to,e,hp⟩:=uw hd hI (k:=k.toNat) (aN (by omega));have hk:xs[k.toNat]? =some (.agg [.int .i64 op,.int .i64 N,.str s,.int .i64 to]):=by rw [aN (by omega),e]
   rw [xX hk];refine HW hp fun h9=> ?_
   have:=xY xs 0 _ hI2 k.toNat op N s to hk h9;have h2:=(ny hp).2.2.1 h9;cases w
   ·simp;omega
   ·simp;omega
  ·cases w
   ·exact hI2
   ·simp only [if_true,ah];refine ⟨hS,?_⟩;obtain ⟨F,hF⟩:=CC ho hl.1 hok hS;obtain ⟨op,N,s,to,e,hp⟩:=uw hd hI (k:=((xs.length:Int)-1).toNat) (aN (by omega));have hk:xs[((xs.length:Int)-1).toNat]? =some (.agg [.int .i64 op,.int .i64 N,.str s,.int .i64 to]):=by rw [aN (by omega),e]
    have:=EM hF hl.1 hok hk;unfold ur;rw [hk];rcases this with rfl | rfl<;>rfl
 cases h1:ef o fns ps false
 ·cases h2:ef o fns ps true
  ·rfl
  ·rw [key true false h2]at h1;cases h1
 ·rw [key false true h1]
theorem nA (ho:aU cF bE o) (h:ef o fns ps true=true) {i:Int} (h0:0<=i) (h1:i<fns.length):
  ∃nm a sl xs F,fns[i.toNat]? =some (.agg [.str nm,.int .i64 a,.int .i64 sl,.lst xs])/\ja fns nm=i/\(0<=a/\a<=4)/\(a<=sl/\sl<=400)/\(1<=(xs.length:Int)/\(xs.length:Int)<=1500)/\KM xs F/\
   ∀k:Int,0<=k->k<xs.length->∃op N s to,xs[k.toNat]? =some (.agg [.int .i64 op,.int .i64 N,.str s,.int .i64 to])/\aQ o fns ps sl xs.length (k+1) op N s to=true:=by
 obtain ⟨nm,a,sl,xs,hg,hd,hA,hX,ha,hs,hl,hI,hH⟩:=xZ hC h h0 h1;have hok:=CG hC h hd hI (fun e=>by cases e);obtain ⟨F,hF⟩:=CC ho hl.1 hok (ba hH).1;refine ⟨nm,a,sl,xs,F,hg,hA,ha,hs,hl,hF,fun k k0 k1=> ?_⟩;obtain ⟨op,N,s,to,e,hp⟩:=uw hd hI (k:=k.toNat) (aN (by omega));rw [if_pos rfl,show ((k.toNat:Nat):Int)+1=k+1 by omega]at hp;exact ⟨op,N,s,to,by rw [aN (by omega),e],hp⟩
end
end T2
