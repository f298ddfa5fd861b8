import Derived.Test.YtfnagkpidcdocaaGreatM30
set_option linter.all false
namespace T2
open Go Go.Vi
set_option maxRecDepth 100000
set_option maxHeartbeats 4000000
section
variable {o:aJ} (ho:aR cF bB o)
include ho
section
variable (a0_0 a0_1:List D) (a1_0:ByteArray) (a1_1 a1_2:Int) (a1_3:List D) (a2 n1 n2:Int) (s1:ByteArray) (n3:Int) (hI:a1_3[a2.toNat]? =some (.agg [.int .i64 n1,.int .i64 n2,.str s1,.int .i64 n3])) (h20:0<=a2) (h21:a2<a1_3.length) (hC:∀x∈a0_0,uE x) (hCb:(a0_0.length:Int)<=1048576) {m:Nat} (hP:∀x∈a0_1,Tm m x) (hPb:(a0_1.length:Int)<=1048576) (hs2:(s1.size:Int)<=1048576) (hf:0<=a1_2/\a1_2<=400) (hl3:(a1_3.length:Int)<=1048576)
include a0_0 a0_1 a1_0 a1_1 a1_2 a1_3 a2 n1 n2 s1 n3 hI h20 h21 hC hCb m hP hPb hs2 hf hl3
theorem HF (hop:n1=4):o.call 317 [.agg [Al a0_0,Al a0_1],.agg [As a1_0,Ai a1_1,Ai a1_2,Al a1_3],Ai a2] []=Ar (Ab (aQ o a0_0 a0_1 a1_2 a1_3.length (a2+1) n1 n2 s1 n3)):=by
 refine ho.aC λR Q=> ?_
 have e1:=ak ho h20 hI;conv=>lhs;cbv;rw[e1];cbv
 rcases aP ho s1 ⟨#[]⟩with ⟨e2,g2⟩|⟨e2,g2⟩<;>(conv=>lhs;rw[e2];cbv)
 ·conv=>lhs;(try (rw[e2];cbv));rw[ai ho n1 1];cbv;rw[ai ho n1 2];cbv;rw[ai ho n1 3];cbv;rw[cU ho n1 4];cbv
  subst Q;clear hC hP hI;subst hop;simp_all [aQ]<;>omega
 ·rcases aj ho n3 0 with ⟨e3,g3⟩|⟨e3,g3⟩<;>(conv=>lhs;rw[e3];cbv)
  ·obtain ⟨n4,e4,g4⟩:=aW ho a2 1;obtain ⟨n5,e5,g5⟩:=ay ho a1_3;obtain ⟨n6,e6,g6⟩:=aO ho n5 1;conv=>lhs;(try (rw[e2];cbv));rw[e4];cbv;rw[e5];cbv;rw[e6];cbv
   rcases aN n3 n4 n6 with ⟨e7,g7⟩|⟨e7,g7⟩
   all_goals
    conv=>lhs;rw[aF ho,e7];cbv;rw[ai ho n1 1];cbv;rw[ai ho n1 2];cbv;rw[ai ho n1 3];cbv;rw[cU ho n1 4];cbv
    subst Q;clear hC hP hI;subst hop;simp_all [aQ]<;>omega
  ·obtain ⟨n4,e4,g4⟩:=aW ho a2 1;obtain ⟨n5,e5,g5⟩:=ay ho a1_3;obtain ⟨n6,e6,g6⟩:=aO ho n5 1;conv=>lhs;(try (rw[e2];cbv));rw[e4];cbv;rw[e5];cbv;rw[e6];cbv
   rcases aN n3 n4 n6 with ⟨e7,g7⟩|⟨e7,g7⟩
   all_goals
    conv=>lhs;rw[aF ho,e7];cbv;rw[ai ho n1 1];cbv;rw[ai ho n1 2];cbv;rw[ai ho n1 3];cbv;rw[cU ho n1 4];cbv
    rcases aN n2 0 20 with ⟨e13,g13⟩|⟨e13,g13⟩
    all_goals
     conv=>lhs;rw[aF ho,e13];cbv
     subst Q;clear hC hP hI;subst hop;simp_all [aQ]<;>omega
theorem HG (hop:n1=5):o.call 317 [.agg [Al a0_0,Al a0_1],.agg [As a1_0,Ai a1_1,Ai a1_2,Al a1_3],Ai a2] []=Ar (Ab (aQ o a0_0 a0_1 a1_2 a1_3.length (a2+1) n1 n2 s1 n3)):=by
 refine ho.aC λR Q=> ?_
 have e1:=ak ho h20 hI;conv=>lhs;cbv;rw[e1];cbv
 rcases aP ho s1 ⟨#[]⟩with ⟨e2,g2⟩|⟨e2,g2⟩<;>(conv=>lhs;rw[e2];cbv)
 ·conv=>lhs;(try (rw[e2];cbv));rw[ai ho n1 1];cbv;rw[ai ho n1 2];cbv;rw[ai ho n1 3];cbv;rw[ai ho n1 4];cbv;rw[cU ho n1 5];cbv
  subst Q;clear hC hP hI;subst hop;simp_all [aQ]<;>omega
 ·rcases aj ho n3 0 with ⟨e3,g3⟩|⟨e3,g3⟩<;>(conv=>lhs;rw[e3];cbv)
  ·obtain ⟨n4,e4,g4⟩:=aW ho a2 1;obtain ⟨n5,e5,g5⟩:=ay ho a1_3;obtain ⟨n6,e6,g6⟩:=aO ho n5 1;conv=>lhs;(try (rw[e2];cbv));rw[e4];cbv;rw[e5];cbv;rw[e6];cbv
   rcases aN n3 n4 n6 with ⟨e7,g7⟩|⟨e7,g7⟩
   all_goals
    conv=>lhs;rw[aF ho,e7];cbv;rw[ai ho n1 1];cbv;rw[ai ho n1 2];cbv;rw[ai ho n1 3];cbv;rw[ai ho n1 4];cbv;rw[cU ho n1 5];cbv
    subst Q;clear hC hP hI;subst hop;simp_all [aQ]<;>omega
  ·obtain ⟨n4,e4,g4⟩:=aW ho a2 1;obtain ⟨n5,e5,g5⟩:=ay ho a1_3;obtain ⟨n6,e6,g6⟩:=aO ho n5 1;conv=>lhs;(try (rw[e2];cbv));rw[e4];cbv;rw[e5];cbv;rw[e6];cbv
   rcases aN n3 n4 n6 with ⟨e7,g7⟩|⟨e7,g7⟩
   all_goals
    conv=>lhs;rw[aF ho,e7];cbv;rw[ai ho n1 1];cbv;rw[ai ho n1 2];cbv;rw[ai ho n1 3];cbv;rw[ai ho n1 4];cbv;rw[cU ho n1 5];cbv
    rcases aN n2 0 20 with ⟨e14,g14⟩|⟨e14,g14⟩
    all_goals
     conv=>lhs;rw[aF ho,e14];cbv
     subst Q;clear hC hP hI;subst hop;simp_all [aQ]<;>omega
theorem HI (hop:n1=6):o.call 317 [.agg [Al a0_0,Al a0_1],.agg [As a1_0,Ai a1_1,Ai a1_2,Al a1_3],Ai a2] []=Ar (Ab (aQ o a0_0 a0_1 a1_2 a1_3.length (a2+1) n1 n2 s1 n3)):=by
 refine ho.aC λR Q=> ?_
 have e1:=ak ho h20 hI;conv=>lhs;cbv;rw[e1];cbv
 rcases aP ho s1 ⟨#[]⟩with ⟨e2,g2⟩|⟨e2,g2⟩<;>(conv=>lhs;rw[e2];cbv)
 ·conv=>lhs;(try (rw[e2];cbv));rw[ai ho n1 1];cbv;rw[ai ho n1 2];cbv;rw[ai ho n1 3];cbv;rw[ai ho n1 4];cbv;rw[ai ho n1 5];cbv;rw[cU ho n1 6];cbv
  subst Q;clear hC hP hI;subst hop;simp_all [aQ]<;>omega
 ·rcases aj ho n3 0 with ⟨e3,g3⟩|⟨e3,g3⟩<;>(conv=>lhs;rw[e3];cbv)
  ·obtain ⟨n4,e4,g4⟩:=aW ho a2 1;obtain ⟨n5,e5,g5⟩:=ay ho a1_3;obtain ⟨n6,e6,g6⟩:=aO ho n5 1;conv=>lhs;(try (rw[e2];cbv));rw[e4];cbv;rw[e5];cbv;rw[e6];cbv
   rcases aN n3 n4 n6 with ⟨e7,g7⟩|⟨e7,g7⟩
   all_goals
    conv=>lhs;rw[aF ho,e7];cbv;rw[ai ho n1 1];cbv;rw[ai ho n1 2];cbv;rw[ai ho n1 3];cbv;rw[ai ho n1 4];cbv;rw[ai ho n1 5];cbv;rw[cU ho n1 6];cbv
    subst Q;clear hC hP hI;subst hop;simp_all [aQ]<;>omega
  ·obtain ⟨n4,e4,g4⟩:=aW ho a2 1;obtain ⟨n5,e5,g5⟩:=ay ho a1_3;obtain ⟨n6,e6,g6⟩:=aO ho n5 1;conv=>lhs;(try (rw[e2];cbv));rw[e4];cbv;rw[e5];cbv;rw[e6];cbv
   rcases aN n3 n4 n6 with ⟨e7,g7⟩|⟨e7,g7⟩
   all_goals
    conv=>lhs;rw[aF ho,e7];cbv;rw[ai ho n1 1];cbv;rw[ai ho n1 2];cbv;rw[ai ho n1 3];cbv;rw[ai ho n1 4];cbv;rw[ai ho n1 5];cbv;rw[cU ho n1 6];cbv
    rcases aN n2 2 6 with ⟨e15,g15⟩|⟨e15,g15⟩
    all_goals
     conv=>lhs;rw[aF ho,e15];cbv
     subst Q;clear hC hP hI;subst hop;simp_all [aQ]<;>omega
end
end
end T2
