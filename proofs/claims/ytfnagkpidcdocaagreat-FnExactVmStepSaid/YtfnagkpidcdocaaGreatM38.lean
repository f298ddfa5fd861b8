import Derived.Test.YtfnagkpidcdocaaGreatM30
set_option linter.all false
namespace T2
open Go Go.Vi
set_option maxRecDepth 100000
set_option maxHeartbeats 4000000
section
variable {o:aJ} (ho:aR cF bB o)
include ho
section
variable (a0_0 a0_1:List D) (a1_0:ByteArray) (a1_1 a1_2:Int) (a1_3:List D) (a2 n1 n2:Int) (s1:ByteArray) (n3:Int) (hI:a1_3[a2.toNat]? =some (.agg [.int .i64 n1,.int .i64 n2,.str s1,.int .i64 n3])) (h20:0<=a2) (h21:a2<a1_3.length) (hC:∀x∈a0_0,uE x) (hCb:(a0_0.length:Int)<=1048576) {m:Nat} (hP:∀x∈a0_1,Tm m x) (hPb:(a0_1.length:Int)<=1048576) (hs2:(s1.size:Int)<=1048576) (hf:0<=a1_2/\a1_2<=400) (hl3:(a1_3.length:Int)<=1048576)
include a0_0 a0_1 a1_0 a1_1 a1_2 a1_3 a2 n1 n2 s1 n3 hI h20 h21 hC hCb m hP hPb hs2 hf hl3
theorem HL (hop:n1=9):o.call 317 [.agg [Al a0_0,Al a0_1],.agg [As a1_0,Ai a1_1,Ai a1_2,Al a1_3],Ai a2] []=Ar (Ab (aQ o a0_0 a0_1 a1_2 a1_3.length (a2+1) n1 n2 s1 n3)):=by
 refine ho.aC λR Q=> ?_
 have e1:=ak ho h20 hI;conv=>lhs;cbv;rw[e1];cbv
 rcases aP ho s1 ⟨#[]⟩with ⟨e2,g2⟩|⟨e2,g2⟩<;>(conv=>lhs;rw[e2];cbv)
 ·conv=>lhs;(try (rw[e2];cbv));rw[ai ho n1 1];cbv;rw[ai ho n1 2];cbv;rw[ai ho n1 3];cbv;rw[ai ho n1 4];cbv;rw[ai ho n1 5];cbv;rw[ai ho n1 6];cbv;rw[ai ho n1 7];cbv;rw[ai ho n1 8];cbv;rw[cU ho n1 9];cbv
  subst Q;clear hC hP hI;subst hop;simp_all [aQ]<;>omega
 ·rcases aj ho n3 0 with ⟨e3,g3⟩|⟨e3,g3⟩<;>(conv=>lhs;rw[e3];cbv)
  all_goals
   obtain ⟨n4,e4,g4⟩:=aW ho a2 1;obtain ⟨n5,e5,g5⟩:=ay ho a1_3;obtain ⟨n6,e6,g6⟩:=aO ho n5 1;conv=>lhs;(try (rw[e2];cbv));rw[e4];cbv;rw[e5];cbv;rw[e6];cbv
   rcases aN n3 n4 n6 with ⟨e7,g7⟩|⟨e7,g7⟩
   ·conv=>lhs;rw[aF ho,e7];cbv;rw[ai ho n1 1];cbv;rw[ai ho n1 2];cbv;rw[ai ho n1 3];cbv;rw[ai ho n1 4];cbv;rw[ai ho n1 5];cbv;rw[ai ho n1 6];cbv;rw[ai ho n1 7];cbv;rw[ai ho n1 8];cbv;rw[cU ho n1 9];cbv
    subst Q;clear hC hP hI;subst hop;simp_all [aQ]<;>omega
   ·obtain ⟨n7,e18,g18⟩:=ay ho a0_1;obtain ⟨n8,e19,g19⟩:=aO ho n7 1;conv=>lhs;rw[aF ho,e7];cbv;rw[ai ho n1 1];cbv;rw[ai ho n1 2];cbv;rw[ai ho n1 3];cbv;rw[ai ho n1 4];cbv;rw[ai ho n1 5];cbv;rw[ai ho n1 6];cbv;rw[ai ho n1 7];cbv;rw[ai ho n1 8];cbv;rw[cU ho n1 9];cbv;rw[e18];cbv;rw[e19];cbv
    rcases aN n2 0 n8 with ⟨e20,g20⟩|⟨e20,g20⟩
    ·conv=>lhs;rw[aF ho,e20];cbv
     subst Q;clear hC hP hI;subst hop;simp_all [aQ]<;>omega
    ·obtain ⟨x,hx0,hx1,hx2⟩:=ax (xs:=a0_1) rfl (show 0<=n2 by omega) (by omega);obtain ⟨m',n9,n10,s2,l1,hd',rfl,hs,hl,ht⟩:=bP (hP _ hx2);have hTp:=hP _ hx2;have hv:DE o a0_1 n2 a1_2=qU o (.agg [.int .i64 n9,.int .i64 n10,.str s2,.lst l1]) a1_2:=by unfold DE;rw[hx0]
     have e22:o.dD a0_1 n2=some (.agg [.int .i64 n9,.int .i64 n10,.str s2,.lst l1]):=ak ho (by omega) hx0;obtain ⟨b14,he23⟩:∃b:Bool,qU o (.agg [.int .i64 n9,.int .i64 n10,.str s2,.lst l1]) a1_2=b:=⟨_,rfl⟩
     have e23:o.call 361 [At n9 n10 s2 l1,Ai a1_2] []=Ar (Ab b14):=(DA ho _ _ _ _ hTp a1_2).trans (by rw[he23]);conv=>lhs;rw[aF ho,e20];cbv;rw[e22];cbv;rw[e23];cbv
     subst Q;clear hC hP hI;subst hop;simp_all [aQ]<;>omega
theorem Ey (hop:n1=10):o.call 317 [.agg [Al a0_0,Al a0_1],.agg [As a1_0,Ai a1_1,Ai a1_2,Al a1_3],Ai a2] []=Ar (Ab (aQ o a0_0 a0_1 a1_2 a1_3.length (a2+1) n1 n2 s1 n3)):=by
 refine ho.aC λR Q=> ?_
 have e1:=ak ho h20 hI;conv=>lhs;cbv;rw[e1];cbv
 rcases aP ho s1 ⟨#[]⟩with ⟨e2,g2⟩|⟨e2,g2⟩<;>(conv=>lhs;rw[e2];cbv)
 ·conv=>lhs;(try (rw[e2];cbv));rw[ai ho n1 1];cbv;rw[ai ho n1 2];cbv;rw[ai ho n1 3];cbv;rw[ai ho n1 4];cbv;rw[ai ho n1 5];cbv;rw[ai ho n1 6];cbv;rw[ai ho n1 7];cbv;rw[ai ho n1 8];cbv;rw[ai ho n1 9];cbv;rw[cU ho n1 10];cbv
  subst Q;clear hC hP hI;subst hop;simp_all [aQ]<;>omega
 ·rcases aj ho n3 0 with ⟨e3,g3⟩|⟨e3,g3⟩<;>(conv=>lhs;rw[e3];cbv)
  all_goals
   obtain ⟨n4,e4,g4⟩:=aW ho a2 1;obtain ⟨n5,e5,g5⟩:=ay ho a1_3;obtain ⟨n6,e6,g6⟩:=aO ho n5 1;conv=>lhs;(try (rw[e2];cbv));rw[e4];cbv;rw[e5];cbv;rw[e6];cbv
   rcases aN n3 n4 n6 with ⟨e7,g7⟩|⟨e7,g7⟩
   ·conv=>lhs;rw[aF ho,e7];cbv;rw[ai ho n1 1];cbv;rw[ai ho n1 2];cbv;rw[ai ho n1 3];cbv;rw[ai ho n1 4];cbv;rw[ai ho n1 5];cbv;rw[ai ho n1 6];cbv;rw[ai ho n1 7];cbv;rw[ai ho n1 8];cbv;rw[ai ho n1 9];cbv;rw[cU ho n1 10];cbv
    subst Q;clear hC hP hI;subst hop;simp_all [aQ]<;>omega
   ·conv=>lhs;rw[aF ho,e7];cbv;rw[ai ho n1 1];cbv;rw[ai ho n1 2];cbv;rw[ai ho n1 3];cbv;rw[ai ho n1 4];cbv;rw[ai ho n1 5];cbv;rw[ai ho n1 6];cbv;rw[ai ho n1 7];cbv;rw[ai ho n1 8];cbv;rw[ai ho n1 9];cbv;rw[cU ho n1 10];cbv
    rcases aj ho n2 0 with ⟨e19,g19⟩|⟨e19,g19⟩<;>(conv=>lhs;rw[e19];cbv)
    all_goals
     subst Q;clear hC hP hI;subst hop;simp_all [aQ]<;>omega
end
end
end T2
