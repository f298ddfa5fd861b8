import Derived.Test.YtfnagkpidcdocaaGreatM30
set_option linter.all false
namespace T2
open Go Go.Vi
set_option maxRecDepth 100000
set_option maxHeartbeats 4000000
section
variable {o:aJ} (ho:aR cF bB o)
include ho
section
variable (c_0 c_1:List D) (f_0:ByteArray) (f_1 f_2:Int) (f_3:List D) (x_0 x_1:Int) (x_2:ByteArray) (x_3:Int) (hC:∀x∈c_0,uE x) (hCb:(c_0.length:Int)<=1048576) {m:Nat} (hP:∀x∈c_1,Tm m x) (hPb:(c_1.length:Int)<=1048576) (hs2:(x_2.size:Int)<=1048576) (hf:0<=f_2/\f_2<=400) (hl3:(f_3.length:Int)<=1048576)
include c_0 c_1 f_0 f_1 f_2 f_3 x_0 x_1 x_2 x_3 hC hCb m hP hPb hs2 hf hl3
theorem Hx (hop:x_0=7):o.call 279 [.sp [.lst c_0,.lst c_1] 0,.sp [.str f_0,.int .i64 f_1,.int .i64 f_2,.lst f_3] 0,.agg [Ai x_0,Ai x_1,As x_2,Ai x_3]] []=Ar (Ab (aQ o c_0 c_1 f_2 f_3.length 0 x_0 x_1 x_2 x_3)):=by
 refine ho.aC λR Q=> ?_
 conv=>lhs;cbv
 rcases aP ho x_2 ⟨#[]⟩with ⟨e1,g1⟩|⟨e1,g1⟩<;>(conv=>lhs;rw[e1];cbv)
 ·obtain ⟨n1,e2,g2⟩:=ay ho f_3;obtain ⟨n2,e3,g3⟩:=aO ho n1 1;conv=>lhs;rw[e2];cbv;rw[e3];cbv
  rcases aN x_3 0 n2 with ⟨e4,g4⟩|⟨e4,g4⟩
  all_goals
   conv=>lhs;rw[av ho,e4];cbv
   iterate 7 (conv=>lhs;simp (disch:=omega) only [bC ho,cw ho];cbv)
   rcases aj ho x_1 0 with ⟨e13,g13⟩|⟨e13,g13⟩<;>(conv=>lhs;rw[e13];cbv)
   ·subst Q;clear hC hP;subst hop;simp_all [aQ]<;>omega
   ·cases he14:j9 x_2<;>(conv=>lhs;rw[Fk ho,he14];cbv)
    ·subst Q;try rw[he14]
     clear hC hP;subst hop;simp_all [aQ]<;>omega
    ·rcases aj ho x_3 0 with ⟨e15,g15⟩|⟨e15,g15⟩<;>(conv=>lhs;rw[e15];cbv)
     all_goals
      subst Q;try rw[he14]
      clear hC hP;subst hop;simp_all [aQ]<;>omega
 ·rcases aj ho x_3 0 with ⟨e2,g2⟩|⟨e2,g2⟩<;>(conv=>lhs;rw[e2];cbv)
  all_goals
   obtain ⟨n1,e3,g3⟩:=ay ho f_3;obtain ⟨n2,e4,g4⟩:=aO ho n1 1;conv=>lhs;rw[e3];cbv;rw[e4];cbv
   rcases aN x_3 0 n2 with ⟨e5,g5⟩|⟨e5,g5⟩
   all_goals
    conv=>lhs;rw[av ho,e5];cbv
    iterate 7 (conv=>lhs;simp (disch:=omega) only [bC ho,cw ho];cbv)
    rcases aj ho x_1 0 with ⟨e14,g14⟩|⟨e14,g14⟩<;>(conv=>lhs;rw[e14];cbv)
    ·subst Q;clear hC hP;subst hop;simp_all [aQ]<;>omega
    ·cases he15:j9 x_2<;>(conv=>lhs;rw[Fk ho,he15];cbv)
     ·subst Q;try rw[he15]
      clear hC hP;subst hop;simp_all [aQ]<;>omega
     ·conv=>lhs;(try (rw[e2];cbv))
      subst Q;try rw[he15]
      clear hC hP;subst hop;simp_all [aQ]<;>omega
theorem Hy (hop:x_0=8):o.call 279 [.sp [.lst c_0,.lst c_1] 0,.sp [.str f_0,.int .i64 f_1,.int .i64 f_2,.lst f_3] 0,.agg [Ai x_0,Ai x_1,As x_2,Ai x_3]] []=Ar (Ab (aQ o c_0 c_1 f_2 f_3.length 0 x_0 x_1 x_2 x_3)):=by
 refine ho.aC λR Q=> ?_
 conv=>lhs;cbv
 rcases aP ho x_2 ⟨#[]⟩with ⟨e1,g1⟩|⟨e1,g1⟩<;>(conv=>lhs;rw[e1];cbv)
 ·obtain ⟨n1,e2,g2⟩:=ay ho f_3;obtain ⟨n2,e3,g3⟩:=aO ho n1 1;conv=>lhs;rw[e2];cbv;rw[e3];cbv
  rcases aN x_3 0 n2 with ⟨e4,g4⟩|⟨e4,g4⟩
  all_goals
   conv=>lhs;rw[av ho,e4];cbv
   iterate 8 (conv=>lhs;simp (disch:=omega) only [bC ho,cw ho];cbv)
   obtain ⟨n3,hA,e14⟩:∃n3,jJ c_0 x_2=n3/\o.call 180 [.sp [.lst c_0,.lst c_1] 0,As x_2] []=Ar (Ai n3):=⟨_,rfl,yx ho c_0 c_1 x_2 hC hCb⟩
   have hAb:=ou c_0 x_2;conv=>lhs;rw[e14];cbv
   rcases je ho n3 0 with ⟨e15,g15⟩|⟨e15,g15⟩<;>(conv=>lhs;rw[e15];cbv)
   ·subst Q;clear hC hP;subst hop;simp_all [aQ]<;>omega
   ·obtain ⟨x,hx0,hx1,hx2⟩:=ax (xs:=c_0) rfl (show 0<=n3 by omega) (by omega);obtain ⟨s1,n4,n5,l1,rfl,hz⟩:=hC _ hx2;have hv:lm c_0 n3=n4:=by unfold lm;rw[hx0]
    have e16:o.dD c_0 n3=some (.agg [.str s1,.int .i64 n4,.int .i64 n5,.lst l1]):=ak ho (by omega) hx0;conv=>lhs;rw[e16];cbv
    rcases aj ho n4 x_1 with ⟨e17,g17⟩|⟨e17,g17⟩<;>(conv=>lhs;rw[e17];cbv)
    ·subst Q;clear hC hP;subst hop;simp_all [aQ]<;>omega
    ·rcases aj ho x_3 0 with ⟨e18,g18⟩|⟨e18,g18⟩<;>(conv=>lhs;rw[e18];cbv)
     all_goals
      subst Q;clear hC hP;subst hop;simp_all [aQ]<;>omega
 ·rcases aj ho x_3 0 with ⟨e2,g2⟩|⟨e2,g2⟩<;>(conv=>lhs;rw[e2];cbv)
  all_goals
   obtain ⟨n1,e3,g3⟩:=ay ho f_3;obtain ⟨n2,e4,g4⟩:=aO ho n1 1;conv=>lhs;rw[e3];cbv;rw[e4];cbv
   rcases aN x_3 0 n2 with ⟨e5,g5⟩|⟨e5,g5⟩
   all_goals
    conv=>lhs;rw[av ho,e5];cbv
    iterate 8 (conv=>lhs;simp (disch:=omega) only [bC ho,cw ho];cbv)
    obtain ⟨n3,hA,e15⟩:∃n3,jJ c_0 x_2=n3/\o.call 180 [.sp [.lst c_0,.lst c_1] 0,As x_2] []=Ar (Ai n3):=⟨_,rfl,yx ho c_0 c_1 x_2 hC hCb⟩
    have hAb:=ou c_0 x_2;conv=>lhs;rw[e15];cbv
    rcases je ho n3 0 with ⟨e16,g16⟩|⟨e16,g16⟩<;>(conv=>lhs;rw[e16];cbv)
    ·subst Q;clear hC hP;subst hop;simp_all [aQ]<;>omega
    ·obtain ⟨x,hx0,hx1,hx2⟩:=ax (xs:=c_0) rfl (show 0<=n3 by omega) (by omega);obtain ⟨s1,n4,n5,l1,rfl,hz⟩:=hC _ hx2;have hv:lm c_0 n3=n4:=by unfold lm;rw[hx0]
     have e17:o.dD c_0 n3=some (.agg [.str s1,.int .i64 n4,.int .i64 n5,.lst l1]):=ak ho (by omega) hx0;conv=>lhs;rw[e17];cbv
     rcases aj ho n4 x_1 with ⟨e18,g18⟩|⟨e18,g18⟩<;>(conv=>lhs;rw[e18];cbv)
     ·subst Q;clear hC hP;subst hop;simp_all [aQ]<;>omega
     ·conv=>lhs;(try (rw[e2];cbv))
      subst Q;clear hC hP;subst hop;simp_all [aQ]<;>omega
end
end
end T2
