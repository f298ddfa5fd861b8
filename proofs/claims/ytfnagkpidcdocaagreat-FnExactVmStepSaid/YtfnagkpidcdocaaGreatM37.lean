import Derived.Test.YtfnagkpidcdocaaGreatM30
set_option linter.all false
namespace T2
open Go Go.Vi
set_option maxRecDepth 100000
set_option maxHeartbeats 4000000
section
variable {o:aJ} (ho:aR cF bB o)
include ho
section
variable (a0_0 a0_1:List D) (a1_0:ByteArray) (a1_1 a1_2:Int) (a1_3:List D) (a2 n1 n2:Int) (s1:ByteArray) (n3:Int) (hI:a1_3[a2.toNat]? =some (.agg [.int .i64 n1,.int .i64 n2,.str s1,.int .i64 n3])) (h20:0<=a2) (h21:a2<a1_3.length) (hC:∀x∈a0_0,uE x) (hCb:(a0_0.length:Int)<=1048576) {m:Nat} (hP:∀x∈a0_1,Tm m x) (hPb:(a0_1.length:Int)<=1048576) (hs2:(s1.size:Int)<=1048576) (hf:0<=a1_2/\a1_2<=400) (hl3:(a1_3.length:Int)<=1048576)
include a0_0 a0_1 a1_0 a1_1 a1_2 a1_3 a2 n1 n2 s1 n3 hI h20 h21 hC hCb m hP hPb hs2 hf hl3
theorem HJ (hop:n1=7):o.call 317 [.agg [Al a0_0,Al a0_1],.agg [As a1_0,Ai a1_1,Ai a1_2,Al a1_3],Ai a2] []=Ar (Ab (aQ o a0_0 a0_1 a1_2 a1_3.length (a2+1) n1 n2 s1 n3)):=by
 refine ho.aC λR Q=> ?_
 have e1:=ak ho h20 hI;conv=>lhs;cbv;rw[e1];cbv
 rcases aP ho s1 ⟨#[]⟩with ⟨e2,g2⟩|⟨e2,g2⟩<;>(conv=>lhs;rw[e2];cbv)
 ·conv=>lhs;(try (rw[e2];cbv));rw[ai ho n1 1];cbv;rw[ai ho n1 2];cbv;rw[ai ho n1 3];cbv;rw[ai ho n1 4];cbv;rw[ai ho n1 5];cbv;rw[ai ho n1 6];cbv;rw[cU ho n1 7];cbv
  cases he10:j9 s1
  ·have e10:o.call 360 [As s1] []=Ar (Ab false):=(yM ho s1).trans (by rw[he10]);conv=>lhs;rw[e10];cbv
   subst Q;try rw[he10]
   clear hC hP hI;subst hop;simp_all [aQ]<;>omega
  ·have e10:o.call 360 [As s1] []=Ar (Ab true):=(yM ho s1).trans (by rw[he10]);conv=>lhs;rw[e10];cbv
   rcases aj ho n2 0 with ⟨e11,g11⟩|⟨e11,g11⟩<;>(conv=>lhs;rw[e11];cbv)
   ·subst Q;try rw[he10]
    clear hC hP hI;subst hop;simp_all [aQ]<;>omega
   ·rcases aj ho n3 0 with ⟨e12,g12⟩|⟨e12,g12⟩<;>(conv=>lhs;rw[e12];cbv)
    all_goals
     subst Q;try rw[he10]
     clear hC hP hI;subst hop;simp_all [aQ]<;>omega
 ·rcases aj ho n3 0 with ⟨e3,g3⟩|⟨e3,g3⟩<;>(conv=>lhs;rw[e3];cbv)
  all_goals
   obtain ⟨n4,e4,g4⟩:=aW ho a2 1;obtain ⟨n5,e5,g5⟩:=ay ho a1_3;obtain ⟨n6,e6,g6⟩:=aO ho n5 1;conv=>lhs;(try (rw[e2];cbv));rw[e4];cbv;rw[e5];cbv;rw[e6];cbv
   rcases aN n3 n4 n6 with ⟨e7,g7⟩|⟨e7,g7⟩
   all_goals
    conv=>lhs;rw[aF ho,e7];cbv;rw[ai ho n1 1];cbv;rw[ai ho n1 2];cbv;rw[ai ho n1 3];cbv;rw[ai ho n1 4];cbv;rw[ai ho n1 5];cbv;rw[ai ho n1 6];cbv;rw[cU ho n1 7];cbv
    cases he16:j9 s1
    ·have e16:o.call 360 [As s1] []=Ar (Ab false):=(yM ho s1).trans (by rw[he16]);conv=>lhs;rw[e16];cbv
     subst Q;try rw[he16]
     clear hC hP hI;subst hop;simp_all [aQ]<;>omega
    ·have e16:o.call 360 [As s1] []=Ar (Ab true):=(yM ho s1).trans (by rw[he16]);conv=>lhs;rw[e16];cbv
     rcases aj ho n2 0 with ⟨e17,g17⟩|⟨e17,g17⟩<;>(conv=>lhs;rw[e17];cbv)
     ·subst Q;try rw[he16]
      clear hC hP hI;subst hop;simp_all [aQ]<;>omega
     ·conv=>lhs;(try (simp (disch:=omega) only [bC ho];cbv))
      subst Q;try rw[he16]
      clear hC hP hI;subst hop;simp_all [aQ]<;>omega
theorem HK (hop:n1=8):o.call 317 [.agg [Al a0_0,Al a0_1],.agg [As a1_0,Ai a1_1,Ai a1_2,Al a1_3],Ai a2] []=Ar (Ab (aQ o a0_0 a0_1 a1_2 a1_3.length (a2+1) n1 n2 s1 n3)):=by
 refine ho.aC λR Q=> ?_
 have e1:=ak ho h20 hI;conv=>lhs;cbv;rw[e1];cbv
 rcases aP ho s1 ⟨#[]⟩with ⟨e2,g2⟩|⟨e2,g2⟩<;>(conv=>lhs;rw[e2];cbv)
 ·obtain ⟨n4,hA,e11⟩:∃n4,jJ a0_0 s1=n4/\o.call 85 [.agg [Al a0_0,Al a0_1],As s1] []=Ar (Ai n4):=⟨_,rfl,uY ho a0_0 a0_1 s1 hC hCb⟩
  have hAb:=ou a0_0 s1;conv=>lhs;(try (rw[e2];cbv));rw[ai ho n1 1];cbv;rw[ai ho n1 2];cbv;rw[ai ho n1 3];cbv;rw[ai ho n1 4];cbv;rw[ai ho n1 5];cbv;rw[ai ho n1 6];cbv;rw[ai ho n1 7];cbv;rw[cU ho n1 8];cbv;rw[e11];cbv
  rcases je ho n4 0 with ⟨e12,g12⟩|⟨e12,g12⟩<;>(conv=>lhs;rw[e12];cbv)
  ·subst Q;clear hC hP hI;subst hop;simp_all [aQ]<;>omega
  ·obtain ⟨x,hx0,hx1,hx2⟩:=ax (xs:=a0_0) rfl (show 0<=n4 by omega) (by omega);obtain ⟨s2,n5,n6,l1,rfl,hz⟩:=hC _ hx2;have hv:lm a0_0 n4=n5:=by unfold lm;rw[hx0]
   have e13:o.dD a0_0 n4=some (.agg [.str s2,.int .i64 n5,.int .i64 n6,.lst l1]):=ak ho (by omega) hx0;conv=>lhs;rw[e13];cbv
   rcases aj ho n5 n2 with ⟨e14,g14⟩|⟨e14,g14⟩<;>(conv=>lhs;rw[e14];cbv)
   ·subst Q;clear hC hP hI;subst hop;simp_all [aQ]<;>omega
   ·rcases aj ho n3 0 with ⟨e15,g15⟩|⟨e15,g15⟩<;>(conv=>lhs;rw[e15];cbv)
    all_goals
     subst Q;clear hC hP hI;subst hop;simp_all [aQ]<;>omega
 ·rcases aj ho n3 0 with ⟨e3,g3⟩|⟨e3,g3⟩<;>(conv=>lhs;rw[e3];cbv)
  all_goals
   obtain ⟨n4,e4,g4⟩:=aW ho a2 1;obtain ⟨n5,e5,g5⟩:=ay ho a1_3;obtain ⟨n6,e6,g6⟩:=aO ho n5 1;conv=>lhs;(try (rw[e2];cbv));rw[e4];cbv;rw[e5];cbv;rw[e6];cbv
   rcases aN n3 n4 n6 with ⟨e7,g7⟩|⟨e7,g7⟩
   all_goals
    obtain ⟨n7,hA,e17⟩:∃n7,jJ a0_0 s1=n7/\o.call 85 [.agg [Al a0_0,Al a0_1],As s1] []=Ar (Ai n7):=⟨_,rfl,uY ho a0_0 a0_1 s1 hC hCb⟩
    have hAb:=ou a0_0 s1;conv=>lhs;rw[aF ho,e7];cbv;rw[ai ho n1 1];cbv;rw[ai ho n1 2];cbv;rw[ai ho n1 3];cbv;rw[ai ho n1 4];cbv;rw[ai ho n1 5];cbv;rw[ai ho n1 6];cbv;rw[ai ho n1 7];cbv;rw[cU ho n1 8];cbv;rw[e17];cbv
    rcases je ho n7 0 with ⟨e18,g18⟩|⟨e18,g18⟩<;>(conv=>lhs;rw[e18];cbv)
    ·subst Q;clear hC hP hI;subst hop;simp_all [aQ]<;>omega
    ·obtain ⟨x,hx0,hx1,hx2⟩:=ax (xs:=a0_0) rfl (show 0<=n7 by omega) (by omega);obtain ⟨s2,n8,n9,l1,rfl,hz⟩:=hC _ hx2;have hv:lm a0_0 n7=n8:=by unfold lm;rw[hx0]
     have e19:o.dD a0_0 n7=some (.agg [.str s2,.int .i64 n8,.int .i64 n9,.lst l1]):=ak ho (by omega) hx0;conv=>lhs;rw[e19];cbv
     rcases aj ho n8 n2 with ⟨e20,g20⟩|⟨e20,g20⟩<;>(conv=>lhs;rw[e20];cbv)
     ·subst Q;clear hC hP hI;subst hop;simp_all [aQ]<;>omega
     ·conv=>lhs;(try (simp (disch:=omega) only [bC ho];cbv))
      subst Q;clear hC hP hI;subst hop;simp_all [aQ]<;>omega
end
end
end T2
