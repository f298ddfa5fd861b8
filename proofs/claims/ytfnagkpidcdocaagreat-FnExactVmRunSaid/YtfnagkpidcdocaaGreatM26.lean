import Derived.Test.YtfnagkpidcdocaaGreatM25
import Derived.Test.YtfnagkpidcdocaaGreatM24
set_option linter.all false
namespace T2
open Go Go.Vi
set_option maxRecDepth 100000
set_option maxHeartbeats 4000000
def jY (fns ps:List D):Prop:=(∀x∈fns,tH x)/\(fns.length:Int)<=1048576/\(∃m,∀x∈ps,Tm m x)/\(ps.length:Int)<=1048576
section
variable {o:aK} (ho:aU cF bE o)
include ho
def ux (c_0 c_1:List D) (f_0:ByteArray) (f_1 f_2:Int) (f_3:List D) (n1 i:Int):St:=⟨E 65 [(0,.sp [.lst c_0,.lst c_1] 0),(1,.sp [.str f_0,.int .i64 f_1,.int .i64 f_2,.lst f_3] 0),(47,Al f_3),(48,Ai n1),(49,Ai i)],O 65 []⟩
def qc (f_0:ByteArray) (f_1 f_2:Int) (f_3:List D):St:=⟨E 65 [(1,.sp [.str f_0,.int .i64 f_1,.int .i64 f_2,.lst f_3] 0)],O 65 []⟩
def qd (f_0:ByteArray) (f_1 f_2:Int) (f_3:List D):St:=⟨E 65 [(1,.sp [.str f_0,.int .i64 f_1,.int .i64 f_2,.lst f_3] 0),(4,Ab false)],O 65 []⟩
def qe (a0_0 a0_1:List D) (n1 i:Int):St:=⟨E 38 [(1,.sp [.lst a0_0,.lst a0_1] 0),(16,Ai n1),(17,Ai i)],O 38 []⟩
def nB:St:=⟨E 38 [(2,Ab false)],O 38 []⟩
def nC:St:=⟨E 38 [],O 38 []⟩
def qf (a0_0 a0_1:List D) (i:Int) (s1:ByteArray) (n1 n2:Int) (l1:List D):St:=⟨E 83 [(2,.sp [.lst a0_0,.lst a0_1] 0),(5,.ptr (5,0) 0),(6,Ai i)],O 83 [(5,[some (.box [As s1,Ai n1,Ai n2,Al l1])])]⟩
def nD (s1:ByteArray) (n1 n2:Int) (l1:List D):St:=⟨E 83 [(5,.ptr (5,0) 0)],O 83 [(5,[some (.box [As s1,Ai n1,Ai n2,Al l1])])]⟩
def nE (s1:ByteArray) (n1 n2:Int) (l1:List D):St:=⟨E 83 [(4,Ab false),(5,.ptr (5,0) 0)],O 83 [(5,[some (.box [As s1,Ai n1,Ai n2,Al l1])])]⟩
def qg (a0_0 a0_1:List D) (i:Int):St:=⟨E 25 [(1,.sp [.lst a0_0,.lst a0_1] 0),(3,Ai i)],O 25 []⟩
def nF:St:=⟨E 25 [],O 25 []⟩
def nG:St:=⟨E 25 [(2,Ab false)],O 25 []⟩
theorem MA (c_0 c_1:List D) (hK:jY c_0 c_1) (f_0:ByteArray) (f_1 f_2:Int) (f_3:List D) (hd:tH (.agg [.str f_0,.int .i64 f_1,.int .i64 f_2,.lst f_3])) (hf:0<=f_2/\f_2<=400) (n1:Int) (hn:(f_3.length:Int)=n1):∀i:Int,0<=i->i<=(n1:Int)->o.loop 18100 (ux c_0 c_1 f_0 f_1 f_2 f_3 n1 i)=some (if eU (tq o c_0 c_1 f_2 f_3 false) i n1 then (.exit 0,qc f_0 f_1 f_2 f_3)else (.ret,qd f_0 f_1 f_2 f_3)):=by
 refine cU (P:=fun i=>o.loop 18100 (ux c_0 c_1 f_0 f_1 f_2 f_3 n1 i)=some (if eU (tq o c_0 c_1 f_2 f_3 false) i n1 then (.exit 0,qc f_0 f_1 f_2 f_3)else (.ret,qd f_0 f_1 f_2 f_3))) (n1:Int) ?_;intro i h0 h1 ih;try dsimp only at ih |-
 obtain ⟨hC,hCb,⟨m,hP⟩,hPb⟩:=hK;obtain ⟨s0,a0,b0,xs0,he0,hz1,hz2,hz3⟩:=hd;injection he0 with he0;simp only [List.cons.injEq,D.int.injEq,D.str.injEq,D.lst.injEq,true_and,and_true]at he0;obtain ⟨rfl,rfl,rfl,rfl⟩:=he0;refine ho.gC fun R Q=> ?_
 conv=>lhs;cbv
 rcases bB ho i n1 with ⟨e1,g1⟩|⟨e1,g1⟩<;>(conv=>lhs;rw [e1];cbv)
 ·subst Q;rw [iq (by omega),if_pos rfl];rfl
 ·obtain ⟨x,hx0,hx1,hx2⟩:=aD hn h0 g1;obtain ⟨⟨n2,n3,s1,n4,rfl⟩,hs⟩:=hz3 _ hx2;have hs:=hs _ _ _ _ rfl;have hA:=xX (o:=o) (fns:=c_0) (ps:=c_1) (sl:=f_2) (z:=false) hx0;have e2:=av ho h0 hx0;conv=>lhs;rw [e2];cbv
  cases he3:aQ o c_0 c_1 f_2 f_3.length 0 n2 n3 s1 n4<;>(conv=>lhs;rw [Hw ho c_0 c_1 f_0 f_1 f_2 f_3 n2 n3 s1 n4 hC hCb hP hPb hs hf hz2,he3];cbv)
  ·subst Q;rw [lZ (by omega) (hA.trans he3)];rfl
  ·obtain ⟨n5,e4,g4⟩:=bA ho i 1;conv=>lhs;rw [e4];cbv
   subst Q;rw [kR (by omega) (hA.trans he3)];rw [show n5=i+1 by omega];exact ih (by omega)
theorem KN (c_0 c_1:List D) (hK:jY c_0 c_1) (f_0:ByteArray) (f_1 f_2:Int) (f_3:List D) (hd:tH (.agg [.str f_0,.int .i64 f_1,.int .i64 f_2,.lst f_3])):o.call 181 [.sp [.lst c_0,.lst c_1] 0,.sp [.str f_0,.int .i64 f_1,.int .i64 f_2,.lst f_3] 0] []=Ar (Ab (wu o c_0 c_1 false f_0 f_1 f_2 f_3)):=by
 have hd0:=hd;obtain ⟨s0,a0,b0,xs0,he0,hz1,hz2,hz3⟩:=hd;injection he0 with he0;simp only [List.cons.injEq,D.int.injEq,D.str.injEq,D.lst.injEq,true_and,and_true]at he0;obtain ⟨rfl,rfl,rfl,rfl⟩:=he0;refine ho.aI fun R Q=> ?_
 conv=>lhs;cbv
 cases he1:gh o f_0<;>(conv=>lhs;rw [tP ho f_0 (by omega),he1];cbv)
 ·subst Q;try rw [he1]
  clear hz3 hd0 hK;exact (Eq.refl _).trans (by unfold wu;simp_all)
 ·rcases aR f_1 0 4 with ⟨e2,g2⟩|⟨e2,g2⟩
  ·conv=>lhs;rw [ax ho,e2];cbv
   subst Q;try rw [he1]
   clear hz3 hd0 hK;exact (Eq.refl _).trans (by unfold wu;simp_all)
  ·conv=>lhs;rw [ax ho,e2];cbv
   rcases aR f_2 f_1 400 with ⟨e4,g4⟩|⟨e4,g4⟩
   ·conv=>lhs;rw [ax ho,e4];cbv
    subst Q;try rw [he1]
    clear hz3 hd0 hK;exact (Eq.refl _).trans (by unfold wu;simp_all)
   ·obtain ⟨n1,e6,g6⟩:=aB ho f_3;conv=>lhs;rw [ax ho,e4];cbv;rw [e6];cbv
    rcases aR n1 1 1500 with ⟨e7,g7⟩|⟨e7,g7⟩
    ·conv=>lhs;rw [ax ho,e7];cbv
     subst Q;try rw [he1]
     clear hz3 hd0 hK;exact (Eq.refl _).trans (by unfold wu;simp_all)
    ·conv=>lhs;rw [ax ho,e7];cbv;(try (rw [e6];cbv))
     have g2:=cT e2;have g4:=cT e4;have g7:=cT e7;have hl:=MA ho c_0 c_1 hK f_0 f_1 f_2 f_3 hd0 (by omega) n1 g6.symm 0 (Int.le_refl _) (by omega);conv at hl=>lhs;cbv
     cases hc:eU (tq o c_0 c_1 f_2 f_3 false) 0 n1<;>(conv=>lhs;rw [hl,hc];cbv)
     ·subst Q;try rw [he1]
      try rw [hc]
      clear hz3 hd0 hK;exact (Eq.refl _).trans (by unfold wu;simp_all)
     ·obtain ⟨l1,hge10⟩:=DB ho f_0 f_1 f_2 f_3 (fun x hx=>(hz3 x hx).1) (by omega) (by omega);obtain ⟨b5,hbe10⟩:∃b,JV o f_3=b:=⟨_,rfl⟩
      have e10:o.call 192 [.sp [.str f_0,.int .i64 f_1,.int .i64 f_2,.lst f_3] 0] []=Ar (.tup [Al l1,Ab b5]):=hge10.trans (by rw [hbe10]);conv=>lhs;rw [e10];cbv
      subst Q;try rw [he1]
      try rw [hc]
      clear hz3 hd0 hK;exact (Eq.refl _).trans (by unfold wu;simp_all)
theorem HX (a0_0 a0_1:List D) (hK:jY a0_0 a0_1) (n1:Int) (hn:(a0_0.length:Int)=n1):∀i:Int,0<=i->i<=(n1:Int)->o.loop 9000 (qe a0_0 a0_1 n1 i)=some (if eU (EN o a0_0 a0_1 false) i n1 then (.exit 0,nC)else (.ret,nB)):=by
 refine cU (P:=fun i=>o.loop 9000 (qe a0_0 a0_1 n1 i)=some (if eU (EN o a0_0 a0_1 false) i n1 then (.exit 0,nC)else (.ret,nB))) (n1:Int) ?_;intro i h0 h1 ih;try dsimp only at ih |-
 have hK0:=hK;obtain ⟨hC,hCb,⟨m,hP⟩,hPb⟩:=hK;refine ho.gC fun R Q=> ?_
 conv=>lhs;cbv
 rcases bB ho i n1 with ⟨e1,g1⟩|⟨e1,g1⟩<;>(conv=>lhs;rw [e1];cbv)
 ·subst Q;rw [iq (by omega),if_pos rfl];rfl
 ·obtain ⟨x,hx0,hx1,hx2⟩:=aD hn h0 g1;obtain ⟨s1,n2,n3,l1,rfl,hz1,hz2,hz3⟩:=hC _ hx2;have hG:=CF (o:=o) (ps:=a0_1) (z:=false) hx0;have e2:=av ho h0 hx0;obtain ⟨n4,hn4,e3⟩:∃n4,ja a0_0 s1=n4/\o.call 180 [.sp [.lst a0_0,.lst a0_1] 0,As s1] []=Ar (Ai n4):=⟨_,rfl,uq ho a0_0 a0_1 s1 hC hCb⟩
  conv=>lhs;rw [e2];cbv;rw [e3];cbv
  rcases cH ho n4 i with ⟨e4,g4⟩|⟨e4,g4⟩<;>(conv=>lhs;rw [e4];cbv)
  ·conv=>lhs;(try (rw [e2];cbv))
   cases he5:wu o a0_0 a0_1 false s1 n2 n3 l1<;>(conv=>lhs;rw [KN ho a0_0 a0_1 hK0 s1 n2 n3 l1 ⟨_,_,_,_,rfl,hz1,hz2,hz3⟩,he5];cbv)
   ·subst Q;rw [lZ (by omega) (by rw [hG,he5,Bool.and_false])];rfl
   ·obtain ⟨n5,e6,g6⟩:=bA ho i 1;conv=>lhs;rw [e6];cbv
    subst Q;rw [kR (by omega) (by rw [hG,hn4,decide_eq_true g4,he5];rfl)];rw [show n5=i+1 by omega];exact ih (by omega)
  ·subst Q;rw [lZ (by omega) (by rw [hG,hn4,decide_eq_false g4];rfl)];rfl
theorem EP (a0_0 a0_1:List D) (hK:jY a0_0 a0_1):o.call 90 [.agg [Al a0_0,Al a0_1]] []=Ar (Ab (ef o a0_0 a0_1 false)):=by
 refine ho.aI fun R Q=> ?_
 obtain ⟨n1,e1,g1⟩:=aB ho a0_0;conv=>lhs;cbv;rw [e1];cbv
 rcases fe ho n1 12 with ⟨e2,g2⟩|⟨e2,g2⟩<;>(conv=>lhs;rw [e2];cbv)
 ·obtain ⟨n2,e3,g3⟩:=aB ho a0_1;conv=>lhs;rw [e3];cbv
  rcases fe ho n2 2000 with ⟨e4,g4⟩|⟨e4,g4⟩<;>(conv=>lhs;rw [e4];cbv)
  ·conv=>lhs;(try (rw [e1];cbv))
   have hl:=HX ho a0_0 a0_1 hK _ g1.symm 0 (Int.le_refl _) (by omega);conv at hl=>lhs;cbv
   cases hc:eU (EN o a0_0 a0_1 false) 0 n1<;>(conv=>lhs;rw [hl,hc];cbv)
   all_goals
    subst Q;clear hK;exact (Eq.refl _).trans (by subst g1;unfold ef;first | (rw [decide_eq_false (by omega)];rfl) | (rw [decide_eq_true (by omega),decide_eq_false (by omega)];rfl) | (rw [decide_eq_true (by omega),decide_eq_true (by omega),hc];rfl))
  ·subst Q;clear hK;exact (Eq.refl _).trans (by subst g1;unfold ef;first | (rw [decide_eq_false (by omega)];rfl) | (rw [decide_eq_true (by omega),decide_eq_false (by omega)];rfl) | (rw [decide_eq_true (by omega),decide_eq_true (by omega),hc];rfl))
 ·subst Q;clear hK;exact (Eq.refl _).trans (by subst g1;unfold ef;first | (rw [decide_eq_false (by omega)];rfl) | (rw [decide_eq_true (by omega),decide_eq_false (by omega)];rfl) | (rw [decide_eq_true (by omega),decide_eq_true (by omega),hc];rfl))
theorem MB (a0_0 a0_1:List D) (hK:jY a0_0 a0_1) (s1:ByteArray) (n1 n2:Int) (l1:List D) (hd:tH (.agg [.str s1,.int .i64 n1,.int .i64 n2,.lst l1])) (hf:0<=n2/\n2<=400) (q:Int) (hn:(l1.length:Int)=q):∀i:Int,0<=i->i<=(q:Int)->o.loop 24200 (qf a0_0 a0_1 i s1 n1 n2 l1)=some (if eU (tq o a0_0 a0_1 n2 l1 true) i q then (.exit 0,nD s1 n1 n2 l1)else (.ret,nE s1 n1 n2 l1)):=by
 refine cU (P:=fun i=>o.loop 24200 (qf a0_0 a0_1 i s1 n1 n2 l1)=some (if eU (tq o a0_0 a0_1 n2 l1 true) i q then (.exit 0,nD s1 n1 n2 l1)else (.ret,nE s1 n1 n2 l1))) (q:Int) ?_;intro i h0 h1 ih;try dsimp only at ih |-
 obtain ⟨hC,hCb,⟨m,hP⟩,hPb⟩:=hK;obtain ⟨s0,a0,b0,xs0,he0,hz1,hz2,hz3⟩:=hd;injection he0 with he0;simp only [List.cons.injEq,D.int.injEq,D.str.injEq,D.lst.injEq,true_and,and_true]at he0;obtain ⟨rfl,rfl,rfl,rfl⟩:=he0;refine ho.gC fun R Q=> ?_
 obtain ⟨n3,e1,g1⟩:=aB ho l1;conv=>lhs;cbv;rw [e1];cbv
 rcases bB ho i n3 with ⟨e2,g2⟩|⟨e2,g2⟩<;>(conv=>lhs;rw [e2];cbv)
 ·subst Q;rw [iq (by omega),if_pos rfl];rfl
 ·obtain ⟨x,hx0,hx1,hx2⟩:=aD hn h0 (by omega);obtain ⟨⟨op,N,s,to,rfl⟩,hs⟩:=hz3 _ hx2;have hs:=hs _ _ _ _ rfl;have hA:=xX (o:=o) (fns:=a0_0) (ps:=a0_1) (sl:=n2) (z:=true) hx0;cases he3:aQ o a0_0 a0_1 n2 l1.length (i+1) op N s to<;>(conv=>lhs;rw [KL ho a0_0 a0_1 s1 n1 n2 l1 i _ _ _ _ hx0 h0 (by omega) hC hCb hP hPb hs hf hz2,he3];cbv)
  ·subst Q;rw [lZ (by omega) (hA.trans he3)];rfl
  ·obtain ⟨n4,e4,g4⟩:=bA ho i 1;conv=>lhs;rw [e4];cbv
   subst Q;rw [kR (by omega) (hA.trans he3)];rw [show n4=i+1 by omega];exact ih (by omega)
theorem HY (a0_0 a0_1:List D) (hK:jY a0_0 a0_1) (a1:Int) (h0:0<=a1) (h1:a1<a0_0.length):o.call 242 [.agg [Al a0_0,Al a0_1],Ai a1] []=Ar (Ab (EN o a0_0 a0_1 true a1)):=by
 have hK0:=hK;obtain ⟨hC,hCb,⟨m,hP⟩,hPb⟩:=hK;refine ho.aI fun R Q=> ?_
 obtain ⟨x,hx0,hx1,hx2⟩:=aD rfl h0 h1;obtain ⟨s1,n1,n2,l1,rfl,hz1,hz2,hz3⟩:=hC _ hx2;have hG:=CF (o:=o) (ps:=a0_1) (z:=true) hx0;have e1:=av ho h0 hx0;conv=>lhs;cbv;rw [e1];cbv
 cases he2:gh o s1<;>(conv=>lhs;rw [oz ho s1 (by omega),he2];cbv)
 ·subst Q;try rw [he2]
  clear hz3 hK0 hC hP;exact (Eq.refl _).trans (by rw [hG];unfold wu;simp_all)
 ·obtain ⟨
          n3,hn3,e3⟩:∃n3,ja a0_0 s1=n3/\o.call 85 [.agg [Al a0_0,Al a0_1],As s1] []=Ar (Ai n3):=⟨_,rfl,ru ho a0_0 a0_1 s1 hC hCb⟩
  conv=>lhs;rw [e3];cbv
  rcases cH ho n3 a1 with ⟨e4,g4⟩|⟨e4,g4⟩<;>(conv=>lhs;rw [e4];cbv)
  ·rcases aR n1 0 4 with ⟨e5,g5⟩|⟨e5,g5⟩
   ·conv=>lhs;rw [aH ho,e5];cbv
    subst Q;try rw [he2]
    clear hz3 hK0 hC hP;exact (Eq.refl _).trans (by rw [hG];unfold wu;simp_all)
   ·conv=>lhs;rw [aH ho,e5];cbv
    rcases aR n2 n1 400 with ⟨e7,g7⟩|⟨e7,g7⟩
    ·conv=>lhs;rw [aH ho,e7];cbv
     subst Q;try rw [he2]
     clear hz3 hK0 hC hP;exact (Eq.refl _).trans (by rw [hG];unfold wu;simp_all)
    ·obtain ⟨n4,e9,g9⟩:=aB ho l1;conv=>lhs;rw [aH ho,e7];cbv;rw [e9];cbv
     rcases aR n4 1 1500 with ⟨e10,g10⟩|⟨e10,g10⟩
     ·conv=>lhs;rw [aH ho,e10];cbv
      subst Q;try rw [he2]
      clear hz3 hK0 hC hP;exact (Eq.refl _).trans (by rw [hG];unfold wu;simp_all)
     ·conv=>lhs;rw [aH ho,e10];cbv
      have g5:=cT e5;have g7:=cT e7;have g10:=cT e10;have hl:=MB ho a0_0 a0_1 hK0 s1 n1 n2 l1 ⟨_,_,_,_,rfl,hz1,hz2,hz3⟩ (by omega) n4 g9.symm 0 (Int.le_refl _) (by omega);conv at hl=>lhs;cbv
      cases hc:eU (tq o a0_0 a0_1 n2 l1 true) 0 n4<;>(conv=>lhs;rw [hl,hc];cbv)
      ·subst Q;try rw [he2]
       try rw [hc]
       clear hz3 hK0 hC hP;exact (Eq.refl _).trans (by rw [hG];unfold wu;simp_all)
      ·have hI:∀y∈l1,KI l1.length y:=by
        intro y hy;obtain ⟨k,hk⟩:=List.mem_iff_getElem?.1 hy;obtain ⟨op,N,s,to,rfl,hp⟩:=uw (fun y hy=>(hz3 y hy).1) (by rw [<-g9];exact hc) hk;have:=(ny hp).2.2.1;exact ⟨op,N,s,to,rfl,fun h=>by have:=this h;rw [if_pos rfl]at this;omega⟩
       obtain ⟨l2,hg⟩:=DE ho s1 n1 n2 l1 hI (by omega) (by omega);cases hb:EA o l1
       ·have e13:o.call 244 [.agg [As s1,Ai n1,Ai n2,Al l1]] []=Ar (.tup [Al l2,Ab false]):=hg.trans (by rw [hb]);obtain ⟨n5,e14,g14⟩:=aS ho n4 1;conv=>lhs;rw [e13];cbv;(try (rw [e9];cbv));rw [e14];cbv
        obtain ⟨y,hy0,hy1,hy2⟩:=aD g9.symm (show 0<=n5 by omega) (by omega);obtain ⟨⟨n6,n7,s2,n8,rfl⟩,hs⟩:=hz3 _ hy2;have hB:ur l1=(decide (n6=12) || decide (n6=11)):=by
         unfold ur;rw [show (l1.length:Int)-1=n5 by omega,hy0]
        have e15:o.dm l1 n5=some (.agg [.int .i64 n6,.int .i64 n7,.str s2,.int .i64 n8]):=av ho (by omega) hy0;conv=>lhs;rw [e15];cbv
        subst Q;try rw [he2]
        try rw [hc]
        try rw [hb]
        clear hz3 hK0 hC hP;exact (Eq.refl _).trans (by rw [hG];unfold wu;simp_all)
       ·have e13:o.call 244 [.agg [As s1,Ai n1,Ai n2,Al l1]] []=Ar (.tup [Al l2,Ab true]):=hg.trans (by rw [hb]);obtain ⟨n5,e14,g14⟩:=aS ho n4 1;conv=>lhs;rw [e13];cbv;(try (rw [e9];cbv));rw [e14];cbv
        obtain ⟨y,hy0,hy1,hy2⟩:=aD g9.symm (show 0<=n5 by omega) (by omega);obtain ⟨⟨n6,n7,s2,n8,rfl⟩,hs⟩:=hz3 _ hy2;have hB:ur l1=(decide (n6=12) || decide (n6=11)):=by
         unfold ur;rw [show (l1.length:Int)-1=n5 by omega,hy0]
        have e15:o.dm l1 n5=some (.agg [.int .i64 n6,.int .i64 n7,.str s2,.int .i64 n8]):=av ho (by omega) hy0;conv=>lhs;rw [e15];cbv
        rcases ak ho n6 12 with ⟨e16,g16⟩|⟨e16,g16⟩<;>(conv=>lhs;rw [e16];cbv)
        ·rcases ak ho n6 11 with ⟨e17,g17⟩|⟨e17,g17⟩<;>(conv=>lhs;rw [e17];cbv)
         all_goals
          subst Q;try rw [he2]
          try rw [hc]
          try rw [hb]
          clear hz3 hK0 hC hP;exact (Eq.refl _).trans (by rw [hG];unfold wu;simp_all)
        ·subst Q;try rw [he2]
         try rw [hc]
         try rw [hb]
         clear hz3 hK0 hC hP;exact (Eq.refl _).trans (by rw [hG];unfold wu;simp_all)
  ·subst Q;try rw [he2]
   clear hz3 hK0 hC hP;exact (Eq.refl _).trans (by rw [hG];unfold wu;simp_all)
theorem HZ (a0_0 a0_1:List D) (hK:jY a0_0 a0_1) (q:Int) (hn:(a0_0.length:Int)=q):∀i:Int,0<=i->i<=(q:Int)->o.loop 14500 (qg a0_0 a0_1 i)=some (if eU (EN o a0_0 a0_1 true) i q then (.exit 0,nF)else (.ret,nG)):=by
 refine cU (P:=fun i=>o.loop 14500 (qg a0_0 a0_1 i)=some (if eU (EN o a0_0 a0_1 true) i q then (.exit 0,nF)else (.ret,nG))) (q:Int) ?_;intro i h0 h1 ih;try dsimp only at ih |-
 have hKb:=hK.2.1;refine ho.gC fun R Q=> ?_
 obtain ⟨n1,e1,g1⟩:=aB ho a0_0;conv=>lhs;cbv;rw [e1];cbv
 rcases bB ho i n1 with ⟨e2,g2⟩|⟨e2,g2⟩<;>(conv=>lhs;rw [e2];cbv)
 ·subst Q;rw [iq (by omega),if_pos rfl];rfl
 ·cases he3:EN o a0_0 a0_1 true i<;>(conv=>lhs;rw [HY ho a0_0 a0_1 hK i h0 (by omega),he3];cbv)
  ·subst Q;rw [lZ (by omega) he3];rfl
  ·obtain ⟨n2,e4,g4⟩:=bA ho i 1;conv=>lhs;rw [e4];cbv
   subst Q;rw [kR (by omega) he3];rw [show n2=i+1 by omega];exact ih (by omega)
theorem zM (a0_0 a0_1:List D) (hK:jY a0_0 a0_1):o.call 145 [.agg [Al a0_0,Al a0_1]] []=Ar (Ab (ef o a0_0 a0_1 true)):=by
 refine ho.aI fun R Q=> ?_
 obtain ⟨n1,e1,g1⟩:=aB ho a0_0;conv=>lhs;cbv;rw [e1];cbv
 rcases fe ho n1 12 with ⟨e2,g2⟩|⟨e2,g2⟩<;>(conv=>lhs;rw [e2];cbv)
 ·obtain ⟨n2,e3,g3⟩:=aB ho a0_1;conv=>lhs;rw [e3];cbv
  rcases fe ho n2 2000 with ⟨e4,g4⟩|⟨e4,g4⟩<;>(conv=>lhs;rw [e4];cbv)
  ·have hl:=HZ ho a0_0 a0_1 hK _ g1.symm 0 (Int.le_refl _) (by omega);conv at hl=>lhs;cbv
   cases hc:eU (EN o a0_0 a0_1 true) 0 n1<;>(conv=>lhs;rw [hl,hc];cbv)
   all_goals
    subst Q;clear hK;exact (Eq.refl _).trans (by subst g1;unfold ef;first | (rw [decide_eq_false (by omega)];rfl) | (rw [decide_eq_true (by omega),decide_eq_false (by omega)];rfl) | (rw [decide_eq_true (by omega),decide_eq_true (by omega),hc];rfl))
  ·subst Q;clear hK;exact (Eq.refl _).trans (by subst g1;unfold ef;first | (rw [decide_eq_false (by omega)];rfl) | (rw [decide_eq_true (by omega),decide_eq_false (by omega)];rfl) | (rw [decide_eq_true (by omega),decide_eq_true (by omega),hc];rfl))
 ·subst Q;clear hK;exact (Eq.refl _).trans (by subst g1;unfold ef;first | (rw [decide_eq_false (by omega)];rfl) | (rw [decide_eq_true (by omega),decide_eq_false (by omega)];rfl) | (rw [decide_eq_true (by omega),decide_eq_true (by omega),hc];rfl))
end
end T2
namespace T2
open Go Go.Vi
set_option maxRecDepth 100000
open Classical in
noncomputable def Hi (xs:List D):List Int:=if h:∃F,KM xs F then Classical.choose h else []
theorem BA {xs:List D} (h:∃F,KM xs F):KM xs (Hi xs):=by unfold Hi;rw [dif_pos h];exact Classical.choose_spec h
abbrev Fr:=Int×Int×List D
def dS (f:Fr):D:= .agg [.int .i64 f.1,.int .i64 f.2.1,.lst f.2.2]
def dI (f:Fr):D:= .agg [.int .i64 f.1,.int .i64 f.2.1,.own (31,4) f.2.2]
def gS (R:List Fr) (f:Fr):List D:=R.reverse.map dS++[dS f]
def gI (R:List Fr) (f:Fr):List D:=R.reverse.map dI++[dI f]
noncomputable def fH (fns:List D) (f:Fr):Int:=match fns[f.1.toNat]? with | some (.agg [.str _,.int _ _,.int _ _,.lst xs])=>gt (Hi xs) f.2.1 | _=>0
def DK (o:aK) (fns:List D) (f:Fr):Prop:=0<=f.1/\f.1<fns.length/\∃nm a sl xs,fns[f.1.toNat]? =some (.agg [.str nm,.int .i64 a,.int .i64 sl,.lst xs])/\0<=f.2.1/\f.2.1<xs.length/\(f.2.2.length:Int)=sl/\∀x∈f.2.2,Sl o x
noncomputable def wz (fns:List D):List Fr->Int
 | []=>0
 | g::R=>fH fns g-1+wz fns R
def Inv (o:aK) (fns:List D) (R:List Fr) (f:Fr) (st:List D):Prop:=(R.length:Int)+1<=40/\(∀g∈R,DK o fns g/\1<=fH fns g)/\DK o fns f/\(st.length:Int)=fH fns f+wz fns R/\∀x∈st,Rt o 8 x
def bx (a b:Nat×Nat):Option Vi.Obj:=some (.box [.arr a (192,3) none false,.arr b (31,4) none false])
def NU (r:Option bk) (c:Int) (F st:List D):Prop:=
 r=some ⟨.d (.int .i64 c),[bx (1,1) (1,2),some (.orows (192,3) F),some (.rows (31,4) st)],[]⟩\/r=some ⟨.d (.int .i64 c),[bx (1,1) (0,0),some (.orows (192,3) F),none],[some (.rows (31,4) st)]⟩
 \/r=some ⟨.d (.int .i64 c),[bx (0,0) (0,1),none,none],[some (.orows (192,3) F),some (.rows (31,4) st)]⟩\/r=some ⟨.d (.int .i64 c),[bx (0,0) (1,2),none,some (.rows (31,4) st)],[some (.orows (192,3) F)]⟩
def NV (r:Option bk) (t:AV) (c:Int) (F st:List D):Prop:=
 r=some ⟨.tup [t,.d (.int .i64 c)],[bx (1,1) (1,2),some (.rows (192,3) F),some (.rows (31,4) st)],[]⟩\/r=some ⟨.tup [t,.d (.int .i64 c)],[bx (1,1) (0,0),some (.rows (192,3) F),none],[some (.rows (31,4) st)]⟩
 \/r=some ⟨.tup [t,.d (.int .i64 c)],[bx (0,0) (0,1),none,none],[some (.rows (192,3) F),some (.rows (31,4) st)]⟩\/r=some ⟨.tup [t,.d (.int .i64 c)],[bx (0,0) (1,2),none,some (.rows (31,4) st)],[some (.rows (192,3) F)]⟩
def zT:AV:= .agg [.d (.int .i64 0),.d (.int .i64 0),.d (.str ⟨#[]⟩),.emp]
def ND (o:aK) (c_0 c_1 fs st:List D):Option bk:=o.call 104 [.ptr (1,0) 0,.sp [.lst c_0,.lst c_1] 0] [bx (1,1) (1,2),some (.orows (192,3) fs),some (.rows (31,4) st)]
def NE (o:aK) (c_0 c_1 fs st:List D):Option bk:=o.call 100 [.agg [.d (.lst c_0),.d (.lst c_1)],.ptr (1,0) 0] [bx (1,1) (1,2),some (.rows (192,3) fs),some (.rows (31,4) st)]
theorem J3 {α:Type} {d:α->D} {R:List α} {f:α}:((R.reverse.map d++[d f]).length:Int)=R.length+1:=by simp
theorem J4 {α:Type} {d:α->D} {R:List α} {f:α}:(R.reverse.map d++[d f])[((R.length:Int)).toNat]? =some (d f):=by
 rw [Int.toNat_natCast,List.getElem?_append_right (by simp)];simp
theorem CN {α:Type} {d:α->D} {R:List α} {f:α} {x:D}:(R.reverse.map d++[d f]).set ((R.length:Int)).toNat x=R.reverse.map d++[x]:=by
 rw [Int.toNat_natCast,List.set_append_right _ _ (by simp)];simp
theorem Fb {α:Type} {d:α->D} {R:List α} {f:α}:(R.reverse.map d++[d f]).take ((R.length:Int)).toNat=R.reverse.map d:=by
 rw [Int.toNat_natCast,List.take_append_of_le_length (by simp),List.take_of_length_le (by simp)]
theorem Fc {α:Type} {d:α->D} {R:List α} {f g:α}:(R.reverse.map d++[d f])++[d g]=(f::R).reverse.map d++[d g]:=by simp
theorem J5 {α:Type} {d:α->D} {R:List α} {g:α}:(g::R).reverse.map d=R.reverse.map d++[d g]:=by simp
section
variable {o:aK} (ho:aU cF bE o) {fns ps:List D} (hK:jY fns ps) (hB:ef o fns ps true=true)
include ho hK hB
theorem J6 {f:Fr} (h:DK o fns f):∃nm a sl xs op N s to,fns[f.1.toNat]? =some (.agg [.str nm,.int .i64 a,.int .i64 sl,.lst xs])/\xs[f.2.1.toNat]? =some (.agg [.int .i64 op,.int .i64 N,.str s,.int .i64 to])/\aQ o fns ps sl xs.length (f.2.1+1) op N s to=true/\KM xs (Hi xs)/\fH fns f=gt (Hi xs) f.2.1/\
  0<=f.2.1/\f.2.1<xs.length/\(xs.length:Int)<=1500/\(f.2.2.length:Int)=sl/\sl<=400/\(∀x∈f.2.2,Sl o x)/\(∀(pc:Int) (S:List D),0<=pc->pc<xs.length->(S.length:Int)=sl->(∀x∈S,Sl o x)->DK o fns (f.1,pc,S)/\fH fns (f.1,pc,S)=gt (Hi xs) pc):=by
 obtain ⟨h0,h1,nm,a,sl,xs,hg,p0,p1,hS,hSl⟩:=h;obtain ⟨nm',a',sl',xs',F,hg',hA,ha,hs,hl,hF,hins⟩:=nA hK.1 ho hB h0 h1;rw [hg]at hg';injection hg' with hg';injection hg' with hg';simp only [List.cons.injEq,D.int.injEq,D.str.injEq,D.lst.injEq,true_and,and_true]at hg';obtain ⟨rfl,rfl,rfl,rfl⟩:=hg';obtain ⟨op,N,s,to,hi,hp⟩:=hins _ p0 p1;have hfH:∀(pc:Int) (S:List D),fH fns (f.1,pc,S)=gt (Hi xs) pc:=fun pc S=>by
  show (match fns[f.1.toNat]? with | some (.agg [.str _,.int _ _,.int _ _,.lst xs])=>gt (Hi xs) pc | _=>0)=_;rw [hg]
 exact ⟨nm,a,sl,xs,op,N,s,to,hg,hi,hp,BA ⟨F,hF⟩,hfH f.2.1 f.2.2,p0,p1,hl.2,hS,hs.2,hSl,fun pc S q0 q1 q2 q3=>⟨⟨h0,h1,nm,a,sl,xs,hg,q0,q1,q2,q3⟩,hfH pc S⟩⟩
theorem J7 {f:Fr} (h:DK o fns f):fH fns f<=300:=by
 obtain ⟨nm,a,sl,xs,op,N,s,to,hg,hi,hp,hH,e,p0,_⟩:=J6 ho hK hB h;rw [e];exact (hH.2.2 _ _ _ _ _ p0 hi).2.1
theorem CO:∀{R:List Fr},(∀g∈R,DK o fns g/\1<=fH fns g)->0<=wz fns R/\wz fns R<=300*R.length
 | [],_=>⟨Int.le_refl _,by simp [wz]⟩
 | g::R,h=>by
  have h1:=CO (R:=R) fun x hx=>h x (by simp [hx])
  have h2:=h g (by simp);have h3:=J7 ho hK hB h2.1;simp only [wz,List.length_cons];omega
theorem IB {R:List Fr} {f:Fr} {st:List D} (h:Inv o fns R f st):stk o st/\fH fns f<=st.length:=by
 have h1:=CO ho hK hB h.2.1;have h2:=J7 ho hK hB h.2.2.1;have h3:=h.1;have h4:=h.2.2.2.1;exact ⟨⟨by omega,h.2.2.2.2⟩,by omega⟩
end
end T2
namespace T2
open Go Go.Vi
set_option maxRecDepth 100000
set_option maxHeartbeats 4000000
def Out (o:aK) (fns ps:List D) (R:List Fr) (f:Fr) (st:List D):Prop:=
 (∃R' f' st',Inv o fns R' f' st'/\NU (ND o fns ps (gI R f) st) 7 (gI R' f') st'/\NV (NE o fns ps (gS R f) st) zT 7 (gS R' f') st')
 \/(∃k n s l F F2 st2,Rt o 8 (.agg [.int .i64 k,.int .i64 n,.str s,.lst l])/\NU (ND o fns ps (gI R f) st) 0 F [.agg [.int .i64 k,.int .i64 n,.str s,.lst l]]/\NV (NE o fns ps (gS R f) st) (.agg [.d (.int .i64 k),.d (.int .i64 n),.d (.str s),.d (.lst l)]) 0 F2 st2)
 \/(∃c F st' F2 st2,c≠7/\c≠0/\NU (ND o fns ps (gI R f) st) c F st'/\NV (NE o fns ps (gS R f) st) zT c F2 st2)
theorem pC {o:aK} {st:List D} {t:D} (h:∀x∈st,Rt o 8 x) (ht:Rt o 8 t):∀x∈st++[t],Rt o 8 x:=by
 intro x hx;rcases List.mem_append.1 hx with h1 | h1
 ·exact h x h1
 ·rw [List.mem_singleton.1 h1];exact ht
section
variable {o:aK} (ho:aU cF bE o) {fns ps:List D} (hK:jY fns ps) (hB:ef o fns ps true=true)
include ho hK hB
theorem tK {R:List Fr} {f f':Fr} {st rest:List D} {r:D×Int} (hr:H9 o r)
  (hI:ND o fns ps (gI R f) st=some ⟨Ai (if r.2=0 then 7 else r.2),[bx (1,1) (0,0),Oo (gI R f'),none],[Os (if r.2=0 then rest++[r.1]else rest)]⟩)
  (hS:NE o fns ps (gS R f) st=some ⟨.tup [zT,Ai (if r.2=0 then 7 else r.2)],[bx (1,1) (0,0),Op (gS R f'),none],[Os (if r.2=0 then rest++[r.1]else rest)]⟩)
  (hN:Rt o 8 r.1->Inv o fns R f' (rest++[r.1])):Out o fns ps R f st:=by
 obtain ⟨k,n,s,l,e,hc,hrt⟩:=hr;by_cases h0:r.2=0
 ·rw [if_pos h0,if_pos h0]at hI hS;exact .inl ⟨R,f',_,hN (hrt h0),.inr (.inl hI),.inr (.inl hS)⟩
 ·rw [if_neg h0,if_neg h0]at hI hS;exact .inr (.inr ⟨r.2,_,_,_,_,by omega,h0,.inr (.inl hI),.inr (.inl hS)⟩)
theorem DL {R:List Fr} {f:Fr} {st:List D} (h:Inv o fns R f st):Out o fns ps R f st:=by
 obtain ⟨hst,hle⟩:=IB ho hK hB h;obtain ⟨Q,hG,hf,hlen,hrt⟩:=h;have hf0:=hf.1;obtain ⟨nm,a,sl,xs,op,N,s,to,hg,hi,hp,hH,hfe,p0,p1,hxl,hS,hsl,hSl,hmk⟩:=J6 ho hK hB hf;have hq:=hH.2.2 f.2.1 op N s to p0 hi;have ho2:=ny hp;have hk:(R.length:Int)=((gI R f).length:Int)-1:=by rw [show gI R f=R.reverse.map dI++[dI f]from rfl,J3];omega
 have hkS:(R.length:Int)=((gS R f).length:Int)-1:=by rw [show gS R f=R.reverse.map dS++[dS f]from rfl,J3];omega
 have gi:(gI R f)[((R.length:Int)).toNat]? =some (dI f):=J4;have gs:(gS R f)[((R.length:Int)).toNat]? =some (dS f):=J4;have setI:∀g:Fr,gI R g=(gI R f).set ((R.length:Int)).toNat (dI g):=fun g=>CN.symm
 have setS:∀g:Fr,gS R g=(gS R f).set ((R.length:Int)).toNat (dS g):=fun g=>CN.symm
 have htk:0<=tk op N:=by
  by_cases h8:op=8
  ·have h9:=ho2.2.2.2.2 h8;have hb:=oT fns s;have:=wZ hK.1 hB (i:=ja fns s) h9.1 (by omega);have e:tk op N=N:=by unfold tk;rw [if_pos (by omega)]
   omega
  ·exact (ho2.2.2.2.1 h8).1
 have next:op<=8->op≠8->∀st':List D,(st'.length:Int)=st.length-tk op N+1->(∀x∈st',Rt o 8 x)->Inv o fns R (f.1,f.2.1+1,f.2.2) st':=fun h8 _ st' hl hx=>by
  have h1:=hq.2.2.2.2.2 h8;have h2:=hmk (f.2.1+1) f.2.2 (by omega) (by omega) hS hSl;exact ⟨Q,hG,h2.1,by rw [h2.2,h1.2];omega,hx⟩
 have hN0:op≠8->tk op N<=20:=fun h8=>(ho2.2.2.2.1 h8).2
 have hz:=hst.1;unfold aQ at hp;by_cases o1:op=1
 ·subst o1;rw [if_pos rfl]at hp;have hr:=cT (ba hp).2;have i1:=KV ho (gI R f) st fns ps hst R.length hk (by omega) (by omega) f.1 f.2.1 f.2.2 gi hSl hf0 nm a sl xs hg p0 (by omega) 1 N s to hi (f.2.1+1) rfl _ (setI (f.1,f.2.1+1,f.2.2)) rfl;have s1:=Ip ho (gS R f) st fns ps hst R.length hkS (by omega) (by omega) f.1 f.2.1 f.2.2 gs hSl hf0 nm a sl xs hg p0 (by omega) 1 N s to hi (f.2.1+1) rfl _ (setS (f.1,f.2.1+1,f.2.2)) rfl;refine .inl ⟨R,(f.1,f.2.1+1,f.2.2),_,next (by omega) (by omega) _ ?_ (pC hrt ⟨_,_,_,_,rfl,?_,fun x hx=>by cases hx⟩),.inr (.inl i1),.inr (.inl s1)⟩
  ·rw [List.length_append];simp [tk]
  ·unfold iP;rw [if_pos rfl,eO (by omega)];rfl
 rw [if_neg o1]at hp;by_cases o2:op=2
 ·subst o2;rw [if_pos rfl]at hp;have hr:=(ba (ba hp).1).1;have hN:=of_decide_eq_true (ba (ba hp).1).2;have i1:=KW ho (gI R f) st fns ps hst R.length hk (by omega) (by omega) f.1 f.2.1 f.2.2 gi hSl hf0 nm a sl xs hg p0 (by omega) 2 N s to hi (f.2.1+1) rfl _ (setI (f.1,f.2.1+1,f.2.2)) rfl;have s1:=Iq ho (gS R f) st fns ps hst R.length hkS (by omega) (by omega) f.1 f.2.1 f.2.2 gs hSl hf0 nm a sl xs hg p0 (by omega) 2 N s to hi (f.2.1+1) rfl _ (setS (f.1,f.2.1+1,f.2.2)) rfl;refine .inl ⟨R,(f.1,f.2.1+1,f.2.2),_,next (by omega) (by omega) _ ?_ (pC hrt ⟨_,_,_,_,rfl,?_,fun x hx=>by cases hx⟩),.inr (.inl i1),.inr (.inl s1)⟩
  ·rw [List.length_append];simp [tk]
  ·unfold gh at hr;unfold iP;rw [if_neg (by omega),if_pos rfl,(ba hr).1];rfl
 rw [if_neg o2]at hp;by_cases o3:op=3
 ·subst o3;rw [if_pos rfl]at hp;have hr:=cT (ba hp).2;obtain ⟨x,hx0,_,hx2⟩:=aD hS hr.1 (by omega);obtain ⟨k1,k2,k3,k4,rfl⟩:=DJ (hSl _ hx2);have i1:=KX ho (gI R f) st fns ps hst R.length hk (by omega) (by omega) f.1 f.2.1 f.2.2 gi hSl hf0 nm a sl xs hg p0 (by omega) 3 N s to hi (f.2.1+1) rfl _ (setI (f.1,f.2.1+1,f.2.2)) rfl hr.1 k1 k2 k3 k4 hx0;have s1:=Ir ho (gS R f) st fns ps hst R.length hkS (by omega) (by omega) f.1 f.2.1 f.2.2 gs hSl hf0 nm a sl xs hg p0 (by omega) 3 N s to hi (f.2.1+1) rfl _ (setS (f.1,f.2.1+1,f.2.2)) rfl hr.1 k1 k2 k3 k4 hx0;cases hz:bY (.agg [.int .i64 k1,.int .i64 k2,.str k3,.lst k4]) lD
  ·rw [hz,if_neg Bool.false_ne_true]at i1 s1;have hne:=kF hz;have hrx:Rt o 8 (.agg [.int .i64 k1,.int .i64 k2,.str k3,.lst k4]):=by
    rcases hSl _ hx2 with h | h
    ·exact absurd h hne
    ·exact h
   refine .inl ⟨R,(f.1,f.2.1+1,f.2.2),_,next (by omega) (by omega) _ ?_ (pC hrt hrx),.inr (.inl i1),.inr (.inl s1)⟩;rw [List.length_append];simp [tk]
  ·rw [hz,if_pos rfl]at i1 s1;exact .inr (.inr ⟨1,_,_,_,_,by omega,by omega,.inl i1,.inl s1⟩)
 rw [if_neg o3]at hp;have valk:∀(lo hi':Int) (r:D×Int),(op=4\/op=5\/op=6)->i_ N lo hi'=true->0<=lo->hi'<=20->tk op N=N->H9 o r->True:=fun _ _ _ _ _ _ _ _ _=>trivial
 by_cases o4:op=4
 ·subst o4;rw [if_pos rfl]at hp;have hr:=cT (ba hp).2;have et:tk 4 N=N:=by unfold tk;simp
  have i1:=KY ho (gI R f) st fns ps hst R.length hk (by omega) (by omega) f.1 f.2.1 f.2.2 gi hSl hf0 nm a sl xs hg p0 (by omega) 4 N s to hi (f.2.1+1) rfl _ (setI (f.1,f.2.1+1,f.2.2)) rfl (by omega) (by omega) (by omega);have s1:=Iu ho (gS R f) st fns ps hst R.length hkS (by omega) (by omega) f.1 f.2.1 f.2.2 gs hSl hf0 nm a sl xs hg p0 (by omega) 4 N s to hi (f.2.1+1) rfl _ (setS (f.1,f.2.1+1,f.2.2)) rfl (by omega) (by omega) (by omega);refine tK ho hK hB (f':=(f.1,f.2.1+1,f.2.2)) (mq (o:=o) (k:=4) (fun x hx=>hrt x (List.mem_of_mem_drop hx)) (by rw [List.length_drop];omega)) i1 s1 fun hrr=>next (by omega) (by omega) _ ?_ (pC (fun x hx=>hrt x (List.mem_of_mem_take hx)) hrr)
  rw [List.length_append,List.length_take,et];simp only [List.length_cons,List.length_nil];omega
 rw [if_neg o4]at hp;by_cases o5:op=5
 ·subst o5;rw [if_pos rfl]at hp;have hr:=cT (ba hp).2;have et:tk 5 N=N:=by unfold tk;simp
  have i1:=KZ ho (gI R f) st fns ps hst R.length hk (by omega) (by omega) f.1 f.2.1 f.2.2 gi hSl hf0 nm a sl xs hg p0 (by omega) 5 N s to hi (f.2.1+1) rfl _ (setI (f.1,f.2.1+1,f.2.2)) rfl (by omega) (by omega) (by omega);have s1:=Iv ho (gS R f) st fns ps hst R.length hkS (by omega) (by omega) f.1 f.2.1 f.2.2 gs hSl hf0 nm a sl xs hg p0 (by omega) 5 N s to hi (f.2.1+1) rfl _ (setS (f.1,f.2.1+1,f.2.2)) rfl (by omega) (by omega) (by omega);refine tK ho hK hB (f':=(f.1,f.2.1+1,f.2.2)) (mq (o:=o) (k:=5) (fun x hx=>hrt x (List.mem_of_mem_drop hx)) (by rw [List.length_drop];omega)) i1 s1 fun hrr=>next (by omega) (by omega) _ ?_ (pC (fun x hx=>hrt x (List.mem_of_mem_take hx)) hrr)
  rw [List.length_append,List.length_take,et];simp only [List.length_cons,List.length_nil];omega
 rw [if_neg o5]at hp;by_cases o6:op=6
 ·subst o6;rw [if_pos rfl]at hp;have hr:=cT (ba hp).2;have et:tk 6 N=N:=by unfold tk;simp
  have i1:=K4 ho (gI R f) st fns ps hst R.length hk (by omega) (by omega) f.1 f.2.1 f.2.2 gi hSl hf0 nm a sl xs hg p0 (by omega) 6 N s to hi (f.2.1+1) rfl _ (setI (f.1,f.2.1+1,f.2.2)) rfl (by omega) (by omega) (by omega);have s1:=Iw ho (gS R f) st fns ps hst R.length hkS (by omega) (by omega) f.1 f.2.1 f.2.2 gs hSl hf0 nm a sl xs hg p0 (by omega) 6 N s to hi (f.2.1+1) rfl _ (setS (f.1,f.2.1+1,f.2.2)) rfl (by omega) (by omega) (by omega);refine tK ho hK hB (f':=(f.1,f.2.1+1,f.2.2)) (mq (o:=o) (k:=6) (fun x hx=>hrt x (List.mem_of_mem_drop hx)) (by rw [List.length_drop];omega)) i1 s1 fun hrr=>next (by omega) (by omega) _ ?_ (pC (fun x hx=>hrt x (List.mem_of_mem_take hx)) hrr)
  rw [List.length_append,List.length_take,et];simp only [List.length_cons,List.length_nil];omega
 rw [if_neg o6]at hp;by_cases o7:op=7
 ·subst o7;have et:tk 7 N=2:=by unfold tk;simp
  have h2:2<=(st.length:Int):=by omega
  have hd:(st.drop ((st.length:Int)-2).toNat).length=2:=by rw [List.length_drop];omega
  obtain ⟨A,hA,_,hA2⟩:=aD (xs:=st.drop ((st.length:Int)-2).toNat) (n:=2) (by omega) (i:=0) (by omega) (by omega);obtain ⟨B,hB',_,hB2⟩:=aD (xs:=st.drop ((st.length:Int)-2).toNat) (n:=2) (by omega) (i:=1) (by omega) (by omega);have rA:=hrt _ (List.mem_of_mem_drop hA2);have rB:=hrt _ (List.mem_of_mem_drop hB2);obtain ⟨_,a1,a2,a3,a4,_,rfl,_⟩:=fL rA;obtain ⟨_,b1,b2,b3,b4,_,rfl,_⟩:=fL rB;have i1:=K5 ho (gI R f) st fns ps hst R.length hk (by omega) (by omega) f.1 f.2.1 f.2.2 gi hSl hf0 nm a sl xs hg p0 (by omega) 7 N s to hi (f.2.1+1) rfl _ (setI (f.1,f.2.1+1,f.2.2)) rfl h2 _ _ _ _ hA _ _ _ _ hB';have s1:=Iy ho (gS R f) st fns ps hst R.length hkS (by omega) (by omega) f.1 f.2.1 f.2.2 gs hSl hf0 nm a sl xs hg p0 (by omega) 7 N s to hi (f.2.1+1) rfl _ (setS (f.1,f.2.1+1,f.2.2)) rfl h2 _ _ _ _ hA _ _ _ _ hB';refine tK ho hK hB (f':=(f.1,f.2.1+1,f.2.2)) (yh ho s rA rB) i1 s1 fun hrr=>next (by omega) (by omega) _ ?_ (pC (fun x hx=>hrt x (List.mem_of_mem_take hx)) hrr)
  rw [List.length_append,List.length_take,et];simp only [List.length_cons,List.length_nil];omega
 rw [if_neg o7]at hp;by_cases o8:op=8
 ·subst o8;rw [if_pos rfl]at hp;have hat:=of_decide_eq_true (ba (ba hp).1).1;have hN:=of_decide_eq_true (ba (ba hp).1).2;have et:tk 8 N=N:=by unfold tk;simp
  have hb:=oT fns s;have hlt:ja fns s<fns.length:=by omega
  obtain ⟨nm2,a2,sl2,xs2,F2,hg2,hA2,ha2,hs2,hl2,hF2,hins2⟩:=nA hK.1 ho hB hat hlt;have hNa:a2=N:=by
   rw [<-hN];unfold g_;rw [hg2]
  have hc3:∀{d:Fr->D},(∀g,(d g).cells.length=3)->∀x∈R.reverse.map d++[d f],x.cells.length=3:=fun hd x hx=>by
   rcases List.mem_append.1 hx with h | h
   ·obtain ⟨g,_,rfl⟩:=List.mem_map.1 h;exact hd g
   ·rw [List.mem_singleton.1 h];exact hd f
  have i1:=K6 ho (gI R f) st fns ps hst R.length hk (by omega) (by omega) f.1 f.2.1 f.2.2 gi hSl hf0 nm a sl xs hg p0 (by omega) 8 N s to hi (f.2.1+1) rfl _ (setI (f.1,f.2.1+1,f.2.2)) rfl hK.1 hK.2.1 _ rfl nm2 a2 sl2 xs2 hat hg2 (by omega) (by omega) (by omega) (by omega) (hc3 fun g=>rfl) (by omega);have s1:=Iz ho (gS R f) st fns ps hst R.length hkS (by omega) (by omega) f.1 f.2.1 f.2.2 gs hSl hf0 nm a sl xs hg p0 (by omega) 8 N s to hi (f.2.1+1) rfl _ (setS (f.1,f.2.1+1,f.2.2)) rfl hK.1 hK.2.1 _ rfl nm2 a2 sl2 xs2 hat hg2 (by omega) (by omega) (by omega) (by omega) (hc3 fun g=>rfl) (by omega);by_cases h40:(R.length:Int)=39
  ·rw [if_pos (by omega)]at i1 s1;exact .inr (.inr ⟨5,_,_,_,_,by omega,by omega,.inl i1,.inl s1⟩)
  ·rw [if_neg (by omega)]at i1 s1;have hH2:=BA ⟨F2,hF2⟩;have hla:((st.drop ((st.length:Int)-N).toNat).length:Int)=N:=by rw [List.length_drop];omega
   have hsl2:((cn sl2 (st.drop ((st.length:Int)-N).toNat)).length:Int)=sl2:=uG (by omega);have e1:=hq.2.2.2.2.2 (by omega);have e2:=hmk (f.2.1+1) f.2.2 (by omega) (by omega) hS hSl;have hnew:fH fns (ja fns s,0,cn sl2 (st.drop ((st.length:Int)-N).toNat))=0:=by
    show (match fns[(ja fns s).toNat]? with | some (.agg [.str _,.int _ _,.int _ _,.lst xs])=>gt (Hi xs) 0 | _=>0)=_;rw [hg2];exact hH2.2.1
   refine .inl ⟨(f.1,f.2.1+1,f.2.2)::R,(ja fns s,0,cn sl2 (st.drop ((st.length:Int)-N).toNat)),st.take ((st.length:Int)-N).toNat,⟨by simp only [List.length_cons];omega,?_,⟨hat,hlt,nm2,a2,sl2,xs2,hg2,Int.le_refl _,by show (0:Int)<_;omega,hsl2,oq fun x hx=>hrt x (List.mem_of_mem_drop hx)⟩,?_,fun x hx=>hrt x (List.mem_of_mem_take hx)⟩,.inr (.inr (.inl ?_)),.inr (.inr (.inl ?_))⟩
   ·intro g hg';rcases List.mem_cons.1 hg' with h | h
    ·rw [h,e2.2,e1.2];exact ⟨e2.1,by omega⟩
    ·exact hG g h
   ·rw [hnew];simp only [wz];rw [e2.2,e1.2,List.length_take,et];omega
   ·rw [<-show _=gI ((f.1,f.2.1+1,f.2.2)::R) (ja fns s,0,cn sl2 (st.drop ((st.length:Int)-N).toNat))from Fc];exact i1
   ·rw [<-show _=gS ((f.1,f.2.1+1,f.2.2)::R) (ja fns s,0,cn sl2 (st.drop ((st.length:Int)-N).toNat))from Fc];exact s1
 rw [if_neg o8]at hp;have top:1<=(st.length:Int)->∃k n s l,st[((st.length:Int)-1).toNat]? =some (.agg [.int .i64 k,.int .i64 n,.str s,.lst l])/\Rt o 8 (.agg [.int .i64 k,.int .i64 n,.str s,.lst l]):=fun h1=>by
  obtain ⟨x,hx0,_,hx2⟩:=aD (xs:=st) rfl (i:=(st.length:Int)-1) (by omega) (by omega);have hr:=hrt x hx2;obtain ⟨_,a1,a2,a3,a4,_,rfl,_⟩:=fL hr;exact ⟨_,_,_,_,hx0,hr⟩
 by_cases o9:op=9
 ·subst o9;rw [if_pos rfl]at hp;have hpp:=(ba hp).2;have hNr:=cT (ba (ba hp).1).2;have hto:=cT (ba (ba (ba hp).1).1).2;have e1:=hq.2.2.2.2.1 rfl;have et:tk 9 N=1:=by unfold tk;simp
  obtain ⟨t0,t1,t2,t3,ht,hrt0⟩:=top (by omega);obtain ⟨_,_,⟨m,hP⟩,hPb⟩:=hK;obtain ⟨P,hP0,_,hP2⟩:=aD (xs:=ps) rfl hNr.1 (by omega);have hTP:=hP _ hP2;obtain ⟨_,q1,q2,q3,q4,_,rfl,_⟩:=dc hTP;unfold DG at hpp;rw [hP0]at hpp;have hpm:=of_decide_eq_true (ba (ba (show (i_ sl 0 400&&(decide (cY o sl 10 _<=300)&&okV [] _))=true from hpp)).2).1;have i1:=K7 ho (gI R f) st fns ps hst R.length hk (by omega) (by omega) f.1 f.2.1 f.2.2 gi hSl hf0 nm a sl xs hg p0 (by omega) 9 N s to hi (f.2.1+1) rfl _ (setI (f.1,f.2.1+1,f.2.2)) rfl (by omega) _ _ _ _ ht sl hS hsl hNr.1 _ _ _ _ hP0 hTP hpm;have s1:=IA ho (gS R f) st fns ps hst R.length hkS (by omega) (by omega) f.1 f.2.1 f.2.2 gs hSl hf0 nm a sl xs hg p0 (by omega) 9 N s to hi (f.2.1+1) rfl _ (setS (f.1,f.2.1+1,f.2.2)) rfl (by omega) _ _ _ _ ht sl hS hsl hNr.1 _ _ _ _ hP0 hTP hpm;have hbs:=kD (o:=o) 10 (.agg [.int .i64 q1,.int .i64 q2,.str q3,.lst q4]) _ f.2.2 hrt0 hSl;cases hb:(aC 10 (.agg [.int .i64 q1,.int .i64 q2,.str q3,.lst q4]) (.agg [.int .i64 t0,.int .i64 t1,.str t2,.lst t3]) f.2.2).1
  ·rw [hb,if_neg Bool.false_ne_true]at i1 s1;have e2:=hmk to f.2.2 (by omega) (by omega) hS hSl;refine .inl ⟨R,(f.1,to,f.2.2),st,⟨Q,hG,e2.1,by rw [e2.2,e1.1];omega,hrt⟩,.inl ?_,.inl ?_⟩
   ·rw [show gI R (f.1,to,f.2.2)=(gI R (f.1,f.2.1+1,f.2.2)).set ((R.length:Int)).toNat (dI (f.1,to,f.2.2))from CN.symm];exact i1
   ·rw [setS (f.1,to,f.2.2)];exact s1
  ·rw [hb,if_pos rfl]at i1 s1;have e2:=hmk (f.2.1+1) (aC 10 (.agg [.int .i64 q1,.int .i64 q2,.str q3,.lst q4]) (.agg [.int .i64 t0,.int .i64 t1,.str t2,.lst t3]) f.2.2).2 (by omega) (by omega) (by rw [hbs.1];exact hS) hbs.2;refine .inl ⟨R,(f.1,f.2.1+1,(aC 10 (.agg [.int .i64 q1,.int .i64 q2,.str q3,.lst q4]) (.agg [.int .i64 t0,.int .i64 t1,.str t2,.lst t3]) f.2.2).2),st.take ((st.length:Int)-1).toNat,⟨Q,hG,e2.1,by rw [e2.2,e1.2.2,List.length_take];omega,fun x hx=>hrt x (List.mem_of_mem_take hx)⟩,.inr (.inl ?_),.inr (.inl ?_)⟩
   ·rw [show gI R (f.1,f.2.1+1,(aC 10 (.agg [.int .i64 q1,.int .i64 q2,.str q3,.lst q4]) (.agg [.int .i64 t0,.int .i64 t1,.str t2,.lst t3]) f.2.2).2)=(gI R (f.1,f.2.1+1,f.2.2)).set ((R.length:Int)).toNat (dI (f.1,f.2.1+1,(aC 10 (.agg [.int .i64 q1,.int .i64 q2,.str q3,.lst q4]) (.agg [.int .i64 t0,.int .i64 t1,.str t2,.lst t3]) f.2.2).2))from CN.symm];exact i1
   ·rw [setS (f.1,f.2.1+1,(aC 10 (.agg [.int .i64 q1,.int .i64 q2,.str q3,.lst q4]) (.agg [.int .i64 t0,.int .i64 t1,.str t2,.lst t3]) f.2.2).2)];exact s1
 rw [if_neg o9]at hp;by_cases o10:op=10
 ·subst o10;rw [if_pos rfl]at hp;have hto:=cT (ba (ba hp).1).2;have e1:=hq.2.2.2.1 rfl;have e2:=hmk to f.2.2 (by omega) (by omega) hS hSl;have i1:=Il ho (gI R f) st fns ps hst R.length hk (by omega) (by omega) f.1 f.2.1 f.2.2 gi hSl hf0 nm a sl xs hg p0 (by omega) 10 N s to hi (f.2.1+1) rfl _ (setI (f.1,f.2.1+1,f.2.2)) rfl;have s1:=EZ ho (gS R f) st fns ps hst R.length hkS (by omega) (by omega) f.1 f.2.1 f.2.2 gs hSl hf0 nm a sl xs hg p0 (by omega) 10 N s to hi (f.2.1+1) rfl _ (setS (f.1,f.2.1+1,f.2.2)) rfl;refine .inl ⟨R,(f.1,to,f.2.2),st,⟨Q,hG,e2.1,by rw [e2.2,e1];omega,hrt⟩,.inl ?_,.inl ?_⟩
  ·rw [setI (f.1,to,f.2.2)];exact i1
  ·rw [setS (f.1,to,f.2.2)];exact s1
 rw [if_neg o10]at hp;by_cases o11:op=11
 ·subst o11;have i1:=Im ho (gI R f) st fns ps hst R.length hk (by omega) (by omega) f.1 f.2.1 f.2.2 gi hSl hf0 nm a sl xs hg p0 (by omega) 11 N s to hi (f.2.1+1) rfl _ (setI (f.1,f.2.1+1,f.2.2)) rfl;have s1:=E_ ho (gS R f) st fns ps hst R.length hkS (by omega) (by omega) f.1 f.2.1 f.2.2 gs hSl hf0 nm a sl xs hg p0 (by omega) 11 N s to hi (f.2.1+1) rfl _ (setS (f.1,f.2.1+1,f.2.2)) rfl;exact .inr (.inr ⟨2,_,_,_,_,by omega,by omega,.inl i1,.inl s1⟩)
 rw [if_neg o11]at hp;by_cases o12:op=12
 ·subst o12;have e1:=hq.2.2.1 rfl;obtain ⟨t0,t1,t2,t3,ht,hrt0⟩:=top (by omega);have i1:=Io ho (gI R f) st fns ps hst R.length hk (by omega) (by omega) f.1 f.2.1 f.2.2 gi hSl hf0 nm a sl xs hg p0 (by omega) 12 N s to hi (f.2.1+1) rfl _ (setI (f.1,f.2.1+1,f.2.2)) rfl;have s1:=Fa ho (gS R f) st fns ps hst R.length hkS (by omega) (by omega) f.1 f.2.1 f.2.2 gs hSl hf0 nm a sl xs hg p0 (by omega) 12 N s to hi (f.2.1+1) rfl _ (setS (f.1,f.2.1+1,f.2.2)) rfl (by omega) t0 t1 t2 t3 ht;have tI:(gI R f).take ((R.length:Int)).toNat=R.reverse.map dI:=Fb;have tS:(gS R f).take ((R.length:Int)).toNat=R.reverse.map dS:=Fb;rw [tI]at i1;rw [tS]at s1;cases R with
  | nil=>
   simp only [wz]at hlen;have hl1:st.length=1:=by omega
   have hst1:st=[.agg [.int .i64 t0,.int .i64 t1,.str t2,.lst t3]]:=by
    match st,hl1,ht with
    | [x],_,ht=>simpa using ht
   have h00:((([]:List Fr).length:Nat):Int)=0:=rfl;rw [if_pos h00]at i1 s1;refine .inr (.inl ⟨t0,t1,t2,t3,([]:List Fr).reverse.map dI,_,_,hrt0,.inr (.inr (.inr ?_)),.inr (.inr (.inl s1))⟩);rw [hst1]at i1 |-;exact i1
  | cons g R=>
   rw [if_neg (by simp only [List.length_cons];omega)]at i1 s1;have hgg:=hG g (by simp);simp only [wz]at hlen;refine .inl ⟨R,g,st,⟨by simp only [List.length_cons]at Q;omega,fun x hx=>hG x (by simp [hx]),hgg.1,by omega,hrt⟩,.inr (.inr (.inr ?_)),.inr (.inr (.inr ?_))⟩
   ·rw [J5]at i1;exact i1
   ·rw [J5]at s1;exact s1
 rw [if_neg o12]at hp;cases hp
end
section
variable {o:aK} (ho:aU cF bE o)
include ho
def aZ (c_0 c_1:List D) (n i:Int) (y y1:List D):St:=⟨E 42 [(0,.sp [.lst c_0,.lst c_1] 0),(8,.ptr (8,0) 0),(10,.ptr (10,0) 0),(23,Ai n),(24,Ai i)],O 42 [(8,[some (.box [Ai 0,Ai 0,As ⟨#[]⟩,.emp])]),(10,[some (Ob (20,0) (21,0))]),(17,[none]),(20,[Oo y]),(21,[Os y1])]⟩
def kS (y y1:List D):St:=⟨E 42 [(8,.ptr (8,0) 0)],O 42 [(8,[some (.box [Ai 0,Ai 0,As ⟨#[]⟩,.emp])]),(17,[none]),(20,[Oo y]),(21,[Os y1])]⟩
def kT (n4 n5:Int) (s2:ByteArray) (l1 l2 l5:List D):St:=⟨E 42 [(8,.ptr (8,0) 0),(9,Ai 0)],O 42 [(8,[some (.box [Ai n4,Ai n5,As s2,.arr (37,0) (31,4) none false])]),(17,[none]),(20,[Oo l1]),(21,[Os l2]),(37,[Oq l5])]⟩
def jb (n4 n5:Int) (s2:ByteArray) (l1 l2 l5:List D):St:=⟨E 42 [(8,.ptr (8,0) 0),(9,Ai 0)],O 42 [(8,[some (.box [Ai n4,Ai n5,As s2,.arr (37,0) (31,4) none false])]),(17,[none]),(20,[Oo l1]),(21,[Os l2]),(27,[none]),(37,[Oq l5])]⟩
def kU (n4 n5:Int) (s2:ByteArray) (l1 l2 l5:List D):St:=⟨E 42 [(8,.ptr (8,0) 0),(9,Ai 0)],O 42 [(8,[some (.box [Ai n4,Ai n5,As s2,.arr (37,0) (31,4) none false])]),(17,[none]),(20,[Oo l1]),(21,[Os l2]),(27,[none,none]),(37,[Oq l5])]⟩
def kV (n1:Int) (l1 l2:List D):St:=⟨E 42 [(8,.ptr (8,0) 0),(9,Ai n1)],O 42 [(8,[some (.box [Ai 0,Ai 0,As ⟨#[]⟩,.emp])]),(17,[none]),(20,[Oo l1]),(21,[Os l2])]⟩
def jc (n1:Int) (l1 l2:List D):St:=⟨E 42 [(8,.ptr (8,0) 0),(9,Ai n1)],O 42 [(8,[some (.box [Ai 0,Ai 0,As ⟨#[]⟩,.emp])]),(17,[none]),(20,[Oo l1]),(21,[Os l2]),(27,[none])]⟩
def kW (n1:Int) (l1 l2:List D):St:=⟨E 42 [(8,.ptr (8,0) 0),(9,Ai n1)],O 42 [(8,[some (.box [Ai 0,Ai 0,As ⟨#[]⟩,.emp])]),(17,[none]),(20,[Oo l1]),(21,[Os l2]),(27,[none,none])]⟩
def bh (n:Int) (c_0 c_1:List D) (i:Int) (y y1:List D):St:=⟨E 33 [(3,Ai n),(4,.sp [.lst c_0,.lst c_1] 0),(8,.ptr (8,0) 0),(10,.ptr (10,0) 0),(11,Ai i)],O 33 [(8,[some (.box [Ai 0,Ai 0,As ⟨#[]⟩,.emp])]),(10,[some (Ob (21,0) (22,0))]),(17,[none]),(21,[Op y]),(22,[Os y1])]⟩
def eE (n1 n2:Int) (s1:ByteArray) (l3 l1 l2:List D):St:=⟨E 33 [(8,.ptr (8,0) 0),(9,Ai 0)],O 33 [(8,[some (.box [Ai n1,Ai n2,As s1,Al l3])]),(17,[none]),(21,[Op l1]),(22,[Os l2])]⟩
def j5 (y y1:List D):St:=⟨E 33 [(8,.ptr (8,0) 0)],O 33 [(8,[some (.box [Ai 0,Ai 0,As ⟨#[]⟩,.emp])]),(17,[none]),(21,[Op y]),(22,[Os y1])]⟩
def eF (n1:Int) (l1 l2:List D):St:=⟨E 33 [(8,.ptr (8,0) 0),(9,Ai n1)],O 33 [(8,[some (.box [Ai 0,Ai 0,As ⟨#[]⟩,.emp])]),(17,[none]),(21,[Op l1]),(22,[Os l2])]⟩
theorem wA {i n:Int} {c_0 c_1 y y1:List D} {n1:Int} {l1 l2:List D} {n4:Int} (e1:o.cmp .lss i n=true) (e2:o.call 104 [.ptr (1,0) 0,.sp [.lst c_0,.lst c_1] 0] [some (Ob (1,1) (1,2)),Oo y,Os y1]=some ⟨Ai n1,[some (Ob (1,1) (1,2)),Oo l1,Os l2],[]⟩) (e3:o.cmp .eql n1 7=true) (e4:o.ar .add .i64 i 1=n4):∀z,o.loop 9100 (aZ c_0 c_1 n n4 l1 l2)=some z->o.loop 9100 (aZ c_0 c_1 n i y y1)=some z:=by
 intro z hz;refine ho.ay ?_;rw [<-hz];clear hz
 cbv
 repeat' (first | (rw [e1];try cbv) | (rw [e2];try cbv) | (rw [e3];try cbv) | (rw [e4];try cbv))
theorem wB {i n:Int} {c_0 c_1 y y1:List D} (e1:o.cmp .lss i n=false):o.loop 9100 (aZ c_0 c_1 n i y y1)=some (.exit 0,kS y y1):=by
 refine ho.ay ?_
 cbv
 repeat' (first | (rw [e1];try cbv))
theorem wC {i n:Int} {c_0 c_1 y y1:List D} {n1:Int} {l1 l2:List D} {n4:Int} (e1:o.cmp .lss i n=true) (e2:o.call 104 [.ptr (1,0) 0,.sp [.lst c_0,.lst c_1] 0] [some (Ob (1,1) (1,2)),Oo y,Os y1]=some ⟨Ai n1,[some (Ob (1,1) (0,0)),Oo l1,none],[Os l2]⟩) (e3:o.cmp .eql n1 7=true) (e4:o.ar .add .i64 i 1=n4):∀z,o.loop 9100 (aZ c_0 c_1 n n4 l1 l2)=some z->o.loop 9100 (aZ c_0 c_1 n i y y1)=some z:=by
 intro z hz;refine ho.ay ?_;rw [<-hz];clear hz
 cbv
 repeat' (first | (rw [e1];try cbv) | (rw [e2];try cbv) | (rw [e3];try cbv) | (rw [e4];try cbv))
theorem wD {i n:Int} {c_0 c_1 y y1:List D} {n1:Int} {l1 l2:List D} {n4:Int} (e1:o.cmp .lss i n=true) (e2:o.call 104 [.ptr (1,0) 0,.sp [.lst c_0,.lst c_1] 0] [some (Ob (1,1) (1,2)),Oo y,Os y1]=some ⟨Ai n1,[some (Ob (0,0) (0,1)),none,none],[Oo l1,Os l2]⟩) (e3:o.cmp .eql n1 7=true) (e4:o.ar .add .i64 i 1=n4):∀z,o.loop 9100 (aZ c_0 c_1 n n4 l1 l2)=some z->o.loop 9100 (aZ c_0 c_1 n i y y1)=some z:=by
 intro z hz;refine ho.ay ?_;rw [<-hz];clear hz
 cbv
 repeat' (first | (rw [e1];try cbv) | (rw [e2];try cbv) | (rw [e3];try cbv) | (rw [e4];try cbv))
theorem wE {i n:Int} {c_0 c_1 y y1:List D} {n1:Int} {l2 l1:List D} {n4:Int} (e1:o.cmp .lss i n=true) (e2:o.call 104 [.ptr (1,0) 0,.sp [.lst c_0,.lst c_1] 0] [some (Ob (1,1) (1,2)),Oo y,Os y1]=some ⟨Ai n1,[some (Ob (0,0) (1,2)),none,Os l2],[Oo l1]⟩) (e3:o.cmp .eql n1 7=true) (e4:o.ar .add .i64 i 1=n4):∀z,o.loop 9100 (aZ c_0 c_1 n n4 l1 l2)=some z->o.loop 9100 (aZ c_0 c_1 n i y y1)=some z:=by
 intro z hz;refine ho.ay ?_;rw [<-hz];clear hz
 cbv
 repeat' (first | (rw [e1];try cbv) | (rw [e2];try cbv) | (rw [e3];try cbv) | (rw [e4];try cbv))
theorem wF {i n:Int} {c_0 c_1 y y1:List D} {n1:Int} {l1 l2:List D} {n4 n5:Int} {s2:ByteArray} {l4 l5:List D} (e1:o.cmp .lss i n=true) (e2:o.call 104 [.ptr (1,0) 0,.sp [.lst c_0,.lst c_1] 0] [some (Ob (1,1) (1,2)),Oo y,Os y1]=some ⟨Ai n1,[some (Ob (1,1) (1,2)),Oo l1,Os l2],[]⟩) (e3:o.cmp .eql n1 7=false) (e4:o.cmp .eql n1 0=true) (e5:o.dm l2 0=some (.agg [.int .i64 n4,.int .i64 n5,.str s2,.lst l4])) (e6:o.call 105 [At n4 n5 s2 l4] []=some ⟨.agg [Ai n4,Ai n5,As s2,.arr (0,0) (31,4) none false],[],[Oq l5]⟩):o.loop 9100 (aZ c_0 c_1 n i y y1)=some (.ret,kT n4 n5 s2 l1 l2 l5):=by
 refine ho.ay ?_
 cbv
 repeat' (first | (rw [e1];try cbv) | (rw [e2];try cbv) | (rw [e3];try cbv) | (rw [e4];try cbv) | (rw [e5];try cbv) | (rw [e6];try cbv))
theorem wG {i n:Int} {c_0 c_1 y y1:List D} {n1:Int} {l1 l2:List D} {n4 n5:Int} {s2:ByteArray} {l4 l5:List D} (e1:o.cmp .lss i n=true) (e2:o.call 104 [.ptr (1,0) 0,.sp [.lst c_0,.lst c_1] 0] [some (Ob (1,1) (1,2)),Oo y,Os y1]=some ⟨Ai n1,[some (Ob (1,1) (0,0)),Oo l1,none],[Os l2]⟩) (e3:o.cmp .eql n1 7=false) (e4:o.cmp .eql n1 0=true) (e5:o.dm l2 0=some (.agg [.int .i64 n4,.int .i64 n5,.str s2,.lst l4])) (e6:o.call 105 [At n4 n5 s2 l4] []=some ⟨.agg [Ai n4,Ai n5,As s2,.arr (0,0) (31,4) none false],[],[Oq l5]⟩):o.loop 9100 (aZ c_0 c_1 n i y y1)=some (.ret,jb n4 n5 s2 l1 l2 l5):=by
 refine ho.ay ?_
 cbv
 repeat' (first | (rw [e1];try cbv) | (rw [e2];try cbv) | (rw [e3];try cbv) | (rw [e4];try cbv) | (rw [e5];try cbv) | (rw [e6];try cbv))
theorem wH {i n:Int} {c_0 c_1 y y1:List D} {n1:Int} {l1 l2:List D} {n4 n5:Int} {s2:ByteArray} {l4 l5:List D} (e1:o.cmp .lss i n=true) (e2:o.call 104 [.ptr (1,0) 0,.sp [.lst c_0,.lst c_1] 0] [some (Ob (1,1) (1,2)),Oo y,Os y1]=some ⟨Ai n1,[some (Ob (0,0) (0,1)),none,none],[Oo l1,Os l2]⟩) (e3:o.cmp .eql n1 7=false) (e4:o.cmp .eql n1 0=true) (e5:o.dm l2 0=some (.agg [.int .i64 n4,.int .i64 n5,.str s2,.lst l4])) (e6:o.call 105 [At n4 n5 s2 l4] []=some ⟨.agg [Ai n4,Ai n5,As s2,.arr (0,0) (31,4) none false],[],[Oq l5]⟩):o.loop 9100 (aZ c_0 c_1 n i y y1)=some (.ret,kU n4 n5 s2 l1 l2 l5):=by
 refine ho.ay ?_
 cbv
 repeat' (first | (rw [e1];try cbv) | (rw [e2];try cbv) | (rw [e3];try cbv) | (rw [e4];try cbv) | (rw [e5];try cbv) | (rw [e6];try cbv))
theorem wI {i n:Int} {c_0 c_1 y y1:List D} {n1:Int} {l2 l1:List D} {n4 n5:Int} {s2:ByteArray} {l4 l5:List D} (e1:o.cmp .lss i n=true) (e2:o.call 104 [.ptr (1,0) 0,.sp [.lst c_0,.lst c_1] 0] [some (Ob (1,1) (1,2)),Oo y,Os y1]=some ⟨Ai n1,[some (Ob (0,0) (1,2)),none,Os l2],[Oo l1]⟩) (e3:o.cmp .eql n1 7=false) (e4:o.cmp .eql n1 0=true) (e5:o.dm l2 0=some (.agg [.int .i64 n4,.int .i64 n5,.str s2,.lst l4])) (e6:o.call 105 [At n4 n5 s2 l4] []=some ⟨.agg [Ai n4,Ai n5,As s2,.arr (0,0) (31,4) none false],[],[Oq l5]⟩):o.loop 9100 (aZ c_0 c_1 n i y y1)=some (.ret,jb n4 n5 s2 l1 l2 l5):=by
 refine ho.ay ?_
 cbv
 repeat' (first | (rw [e1];try cbv) | (rw [e2];try cbv) | (rw [e3];try cbv) | (rw [e4];try cbv) | (rw [e5];try cbv) | (rw [e6];try cbv))
theorem uI {i n:Int} {c_0 c_1 y y1:List D} {n1:Int} {l1 l2:List D} (e1:o.cmp .lss i n=true) (e2:o.call 104 [.ptr (1,0) 0,.sp [.lst c_0,.lst c_1] 0] [some (Ob (1,1) (1,2)),Oo y,Os y1]=some ⟨Ai n1,[some (Ob (1,1) (1,2)),Oo l1,Os l2],[]⟩) (e3:o.cmp .eql n1 7=false) (e4:o.cmp .eql n1 0=false):o.loop 9100 (aZ c_0 c_1 n i y y1)=some (.ret,kV n1 l1 l2):=by
 refine ho.ay ?_
 cbv
 repeat' (first | (rw [e1];try cbv) | (rw [e2];try cbv) | (rw [e3];try cbv) | (rw [e4];try cbv))
theorem uJ {i n:Int} {c_0 c_1 y y1:List D} {n1:Int} {l1 l2:List D} (e1:o.cmp .lss i n=true) (e2:o.call 104 [.ptr (1,0) 0,.sp [.lst c_0,.lst c_1] 0] [some (Ob (1,1) (1,2)),Oo y,Os y1]=some ⟨Ai n1,[some (Ob (1,1) (0,0)),Oo l1,none],[Os l2]⟩) (e3:o.cmp .eql n1 7=false) (e4:o.cmp .eql n1 0=false):o.loop 9100 (aZ c_0 c_1 n i y y1)=some (.ret,jc n1 l1 l2):=by
 refine ho.ay ?_
 cbv
 repeat' (first | (rw [e1];try cbv) | (rw [e2];try cbv) | (rw [e3];try cbv) | (rw [e4];try cbv))
theorem uK {i n:Int} {c_0 c_1 y y1:List D} {n1:Int} {l1 l2:List D} (e1:o.cmp .lss i n=true) (e2:o.call 104 [.ptr (1,0) 0,.sp [.lst c_0,.lst c_1] 0] [some (Ob (1,1) (1,2)),Oo y,Os y1]=some ⟨Ai n1,[some (Ob (0,0) (0,1)),none,none],[Oo l1,Os l2]⟩) (e3:o.cmp .eql n1 7=false) (e4:o.cmp .eql n1 0=false):o.loop 9100 (aZ c_0 c_1 n i y y1)=some (.ret,kW n1 l1 l2):=by
 refine ho.ay ?_
 cbv
 repeat' (first | (rw [e1];try cbv) | (rw [e2];try cbv) | (rw [e3];try cbv) | (rw [e4];try cbv))
theorem uL {i n:Int} {c_0 c_1 y y1:List D} {n1:Int} {l2 l1:List D} (e1:o.cmp .lss i n=true) (e2:o.call 104 [.ptr (1,0) 0,.sp [.lst c_0,.lst c_1] 0] [some (Ob (1,1) (1,2)),Oo y,Os y1]=some ⟨Ai n1,[some (Ob (0,0) (1,2)),none,Os l2],[Oo l1]⟩) (e3:o.cmp .eql n1 7=false) (e4:o.cmp .eql n1 0=false):o.loop 9100 (aZ c_0 c_1 n i y y1)=some (.ret,jc n1 l1 l2):=by
 refine ho.ay ?_
 cbv
 repeat' (first | (rw [e1];try cbv) | (rw [e2];try cbv) | (rw [e3];try cbv) | (rw [e4];try cbv))
theorem uM {i n:Int} {c_0 c_1 y y1:List D} {n1 n2:Int} {s1:ByteArray} {l3 l1 l2:List D} (e1:o.cmp .lss i n=true) (e2:o.call 100 [.agg [Al c_0,Al c_1],.ptr (1,0) 0] [some (Ob (1,1) (1,2)),Op y,Os y1]=some ⟨.tup [At n1 n2 s1 l3,Ai 0],[some (Ob (1,1) (1,2)),Op l1,Os l2],[]⟩):o.loop 8400 (bh n c_0 c_1 i y y1)=some (.ret,eE n1 n2 s1 l3 l1 l2):=by
 refine ho.ay ?_;have f3:o.cmp .neq 0 7=true:=by rw [ho.cmp];rfl
 cbv
 repeat' (first | (rw [e1];try cbv) | (rw [e2];try cbv) | (rw [f3];try cbv))
theorem uN {i n:Int} {c_0 c_1 y y1:List D} (e1:o.cmp .lss i n=false):o.loop 8400 (bh n c_0 c_1 i y y1)=some (.exit 0,j5 y y1):=by
 refine ho.ay ?_
 cbv
 repeat' (first | (rw [e1];try cbv))
theorem uO {i n:Int} {c_0 c_1 y y1:List D} {n1 n2:Int} {s1:ByteArray} {l3 l1 l2:List D} (e1:o.cmp .lss i n=true) (e2:o.call 100 [.agg [Al c_0,Al c_1],.ptr (1,0) 0] [some (Ob (1,1) (1,2)),Op y,Os y1]=some ⟨.tup [At n1 n2 s1 l3,Ai 0],[some (Ob (1,1) (0,0)),Op l1,none],[Os l2]⟩):o.loop 8400 (bh n c_0 c_1 i y y1)=some (.ret,eE n1 n2 s1 l3 l1 l2):=by
 refine ho.ay ?_;have f3:o.cmp .neq 0 7=true:=by rw [ho.cmp];rfl
 cbv
 repeat' (first | (rw [e1];try cbv) | (rw [e2];try cbv) | (rw [f3];try cbv))
theorem uP {i n:Int} {c_0 c_1 y y1:List D} {n1 n2:Int} {s1:ByteArray} {l3 l1 l2:List D} (e1:o.cmp .lss i n=true) (e2:o.call 100 [.agg [Al c_0,Al c_1],.ptr (1,0) 0] [some (Ob (1,1) (1,2)),Op y,Os y1]=some ⟨.tup [At n1 n2 s1 l3,Ai 0],[some (Ob (0,0) (0,1)),none,none],[Op l1,Os l2]⟩):o.loop 8400 (bh n c_0 c_1 i y y1)=some (.ret,eE n1 n2 s1 l3 l1 l2):=by
 refine ho.ay ?_;have f3:o.cmp .neq 0 7=true:=by rw [ho.cmp];rfl
 cbv
 repeat' (first | (rw [e1];try cbv) | (rw [e2];try cbv) | (rw [f3];try cbv))
theorem uQ {i n:Int} {c_0 c_1 y y1:List D} {n1 n2:Int} {s1:ByteArray} {l3 l2 l1:List D} (e1:o.cmp .lss i n=true) (e2:o.call 100 [.agg [Al c_0,Al c_1],.ptr (1,0) 0] [some (Ob (1,1) (1,2)),Op y,Os y1]=some ⟨.tup [At n1 n2 s1 l3,Ai 0],[some (Ob (0,0) (1,2)),none,Os l2],[Op l1]⟩):o.loop 8400 (bh n c_0 c_1 i y y1)=some (.ret,eE n1 n2 s1 l3 l1 l2):=by
 refine ho.ay ?_;have f3:o.cmp .neq 0 7=true:=by rw [ho.cmp];rfl
 cbv
 repeat' (first | (rw [e1];try cbv) | (rw [e2];try cbv) | (rw [f3];try cbv))
theorem uR {i n:Int} {c_0 c_1 y y1:List D} {n1:Int} {l1 l2:List D} (e1:o.cmp .lss i n=true) (e2:o.call 100 [.agg [Al c_0,Al c_1],.ptr (1,0) 0] [some (Ob (1,1) (1,2)),Op y,Os y1]=some ⟨.tup [.agg [Ai 0,Ai 0,As ⟨#[]⟩,.emp],Ai n1],[some (Ob (1,1) (1,2)),Op l1,Os l2],[]⟩) (e3:o.cmp .neq n1 7=true):o.loop 8400 (bh n c_0 c_1 i y y1)=some (.ret,eF n1 l1 l2):=by
 refine ho.ay ?_
 cbv
 repeat' (first | (rw [e1];try cbv) | (rw [e2];try cbv) | (rw [e3];try cbv))
theorem uS {i n:Int} {c_0 c_1 y y1:List D} {n1:Int} {l1 l2:List D} (e1:o.cmp .lss i n=true) (e2:o.call 100 [.agg [Al c_0,Al c_1],.ptr (1,0) 0] [some (Ob (1,1) (1,2)),Op y,Os y1]=some ⟨.tup [.agg [Ai 0,Ai 0,As ⟨#[]⟩,.emp],Ai n1],[some (Ob (1,1) (0,0)),Op l1,none],[Os l2]⟩) (e3:o.cmp .neq n1 7=true):o.loop 8400 (bh n c_0 c_1 i y y1)=some (.ret,eF n1 l1 l2):=by
 refine ho.ay ?_
 cbv
 repeat' (first | (rw [e1];try cbv) | (rw [e2];try cbv) | (rw [e3];try cbv))
theorem uT {i n:Int} {c_0 c_1 y y1:List D} {n1:Int} {l1 l2:List D} (e1:o.cmp .lss i n=true) (e2:o.call 100 [.agg [Al c_0,Al c_1],.ptr (1,0) 0] [some (Ob (1,1) (1,2)),Op y,Os y1]=some ⟨.tup [.agg [Ai 0,Ai 0,As ⟨#[]⟩,.emp],Ai n1],[some (Ob (0,0) (0,1)),none,none],[Op l1,Os l2]⟩) (e3:o.cmp .neq n1 7=true):o.loop 8400 (bh n c_0 c_1 i y y1)=some (.ret,eF n1 l1 l2):=by
 refine ho.ay ?_
 cbv
 repeat' (first | (rw [e1];try cbv) | (rw [e2];try cbv) | (rw [e3];try cbv))
theorem uU {i n:Int} {c_0 c_1 y y1:List D} {n1:Int} {l2 l1:List D} (e1:o.cmp .lss i n=true) (e2:o.call 100 [.agg [Al c_0,Al c_1],.ptr (1,0) 0] [some (Ob (1,1) (1,2)),Op y,Os y1]=some ⟨.tup [.agg [Ai 0,Ai 0,As ⟨#[]⟩,.emp],Ai n1],[some (Ob (0,0) (1,2)),none,Os l2],[Op l1]⟩) (e3:o.cmp .neq n1 7=true):o.loop 8400 (bh n c_0 c_1 i y y1)=some (.ret,eF n1 l1 l2):=by
 refine ho.ay ?_
 cbv
 repeat' (first | (rw [e1];try cbv) | (rw [e2];try cbv) | (rw [e3];try cbv))
theorem tr {i n:Int} {c_0 c_1 y y1:List D} {n1:Int} {l1 l2:List D} {n2:Int} (e1:o.cmp .lss i n=true) (e2:o.call 100 [.agg [Al c_0,Al c_1],.ptr (1,0) 0] [some (Ob (1,1) (1,2)),Op y,Os y1]=some ⟨.tup [.agg [Ai 0,Ai 0,As ⟨#[]⟩,.emp],Ai n1],[some (Ob (1,1) (1,2)),Op l1,Os l2],[]⟩) (e3:o.cmp .neq n1 7=false) (e4:o.ar .add .i64 i 1=n2):∀z,o.loop 8400 (bh n c_0 c_1 n2 l1 l2)=some z->o.loop 8400 (bh n c_0 c_1 i y y1)=some z:=by
 intro z hz;refine ho.ay ?_;rw [<-hz];clear hz
 cbv
 repeat' (first | (rw [e1];try cbv) | (rw [e2];try cbv) | (rw [e3];try cbv) | (rw [e4];try cbv))
theorem tu {i n:Int} {c_0 c_1 y y1:List D} {n1:Int} {l1 l2:List D} {n2:Int} (e1:o.cmp .lss i n=true) (e2:o.call 100 [.agg [Al c_0,Al c_1],.ptr (1,0) 0] [some (Ob (1,1) (1,2)),Op y,Os y1]=some ⟨.tup [.agg [Ai 0,Ai 0,As ⟨#[]⟩,.emp],Ai n1],[some (Ob (1,1) (0,0)),Op l1,none],[Os l2]⟩) (e3:o.cmp .neq n1 7=false) (e4:o.ar .add .i64 i 1=n2):∀z,o.loop 8400 (bh n c_0 c_1 n2 l1 l2)=some z->o.loop 8400 (bh n c_0 c_1 i y y1)=some z:=by
 intro z hz;refine ho.ay ?_;rw [<-hz];clear hz
 cbv
 repeat' (first | (rw [e1];try cbv) | (rw [e2];try cbv) | (rw [e3];try cbv) | (rw [e4];try cbv))
theorem tv {i n:Int} {c_0 c_1 y y1:List D} {n1:Int} {l1 l2:List D} {n2:Int} (e1:o.cmp .lss i n=true) (e2:o.call 100 [.agg [Al c_0,Al c_1],.ptr (1,0) 0] [some (Ob (1,1) (1,2)),Op y,Os y1]=some ⟨.tup [.agg [Ai 0,Ai 0,As ⟨#[]⟩,.emp],Ai n1],[some (Ob (0,0) (0,1)),none,none],[Op l1,Os l2]⟩) (e3:o.cmp .neq n1 7=false) (e4:o.ar .add .i64 i 1=n2):∀z,o.loop 8400 (bh n c_0 c_1 n2 l1 l2)=some z->o.loop 8400 (bh n c_0 c_1 i y y1)=some z:=by
 intro z hz;refine ho.ay ?_;rw [<-hz];clear hz
 cbv
 repeat' (first | (rw [e1];try cbv) | (rw [e2];try cbv) | (rw [e3];try cbv) | (rw [e4];try cbv))
theorem tw {i n:Int} {c_0 c_1 y y1:List D} {n1:Int} {l2 l1:List D} {n2:Int} (e1:o.cmp .lss i n=true) (e2:o.call 100 [.agg [Al c_0,Al c_1],.ptr (1,0) 0] [some (Ob (1,1) (1,2)),Op y,Os y1]=some ⟨.tup [.agg [Ai 0,Ai 0,As ⟨#[]⟩,.emp],Ai n1],[some (Ob (0,0) (1,2)),none,Os l2],[Op l1]⟩) (e3:o.cmp .neq n1 7=false) (e4:o.ar .add .i64 i 1=n2):∀z,o.loop 8400 (bh n c_0 c_1 n2 l1 l2)=some z->o.loop 8400 (bh n c_0 c_1 i y y1)=some z:=by
 intro z hz;refine ho.ay ?_;rw [<-hz];clear hz
 cbv
 repeat' (first | (rw [e1];try cbv) | (rw [e2];try cbv) | (rw [e3];try cbv) | (rw [e4];try cbv))
end
end T2
