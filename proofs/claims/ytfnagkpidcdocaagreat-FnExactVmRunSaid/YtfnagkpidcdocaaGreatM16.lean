import Derived.Test.YtfnagkpidcdocaaGreatM13
import Derived.Test.YtfnagkpidcdocaaGreatM15
set_option linter.all false
namespace T2
open Go Go.Vi
set_option maxRecDepth 100000
set_option maxHeartbeats 4000000
def sm (c:Int):Bool:=i_ c 97 122
def fg (c:Int):Bool:=i_ c 48 57
section
variable {o:aK} (ho:aU cF bE o)
include ho
theorem ax (a0 a1 a2:Int):o.call 89 [Ai a0,Ai a1,Ai a2] []=Ar (Ab (i_ a0 a1 a2)):=by
 refine ho.aI fun R Q=> ?_
 conv=>lhs;cbv
 rcases iQ ho a0 a1 with ⟨e1,g1⟩|⟨e1,g1⟩<;>(conv=>lhs;rw [e1];cbv)
 ·subst Q;exact (Eq.refl _).trans (by first | rw [jx (by omega)] | rw [eO (by omega)])
 ·rcases jy ho a0 a2 with ⟨e2,g2⟩|⟨e2,g2⟩<;>(conv=>lhs;rw [e2];cbv)
  all_goals
   subst Q;exact (Eq.refl _).trans (by first | rw [jx (by omega)] | rw [eO (by omega)])
theorem aH (a0 a1 a2:Int):o.call 83 [Ai a0,Ai a1,Ai a2] []=Ar (Ab (i_ a0 a1 a2)):=by
 refine ho.aI fun R Q=> ?_
 conv=>lhs;cbv
 rcases iQ ho a0 a1 with ⟨e1,g1⟩|⟨e1,g1⟩<;>(conv=>lhs;rw [e1];cbv)
 ·subst Q;exact (Eq.refl _).trans (by first | rw [jx (by omega)] | rw [eO (by omega)])
 ·rcases jy ho a0 a2 with ⟨e2,g2⟩|⟨e2,g2⟩<;>(conv=>lhs;rw [e2];cbv)
  all_goals
   subst Q;exact (Eq.refl _).trans (by first | rw [jx (by omega)] | rw [eO (by omega)])
theorem Cy (a0:Int):o.call 270 [.d (.int .u8 a0)] []=Ar (Ab (sm a0)):=by
 refine ho.aI fun R Q=> ?_
 conv=>lhs;cbv
 rcases iQ ho a0 97 with ⟨e1,g1⟩|⟨e1,g1⟩<;>(conv=>lhs;rw [e1];cbv)
 ·subst Q;exact (Eq.refl _).trans (by first | rw [sm,jx (by omega)] | rw [sm,eO (by omega)] | rw [fg,jx (by omega)] | rw [fg,eO (by omega)])
 ·rcases jy ho a0 122 with ⟨e2,g2⟩|⟨e2,g2⟩<;>(conv=>lhs;rw [e2];cbv)
  all_goals
   subst Q;exact (Eq.refl _).trans (by first | rw [sm,jx (by omega)] | rw [sm,eO (by omega)] | rw [fg,jx (by omega)] | rw [fg,eO (by omega)])
theorem zH (a0:Int):o.call 271 [.d (.int .u8 a0)] []=Ar (Ab (fg a0)):=by
 refine ho.aI fun R Q=> ?_
 conv=>lhs;cbv
 rcases iQ ho a0 48 with ⟨e1,g1⟩|⟨e1,g1⟩<;>(conv=>lhs;rw [e1];cbv)
 ·subst Q;exact (Eq.refl _).trans (by first | rw [sm,jx (by omega)] | rw [sm,eO (by omega)] | rw [fg,jx (by omega)] | rw [fg,eO (by omega)])
 ·rcases jy ho a0 57 with ⟨e2,g2⟩|⟨e2,g2⟩<;>(conv=>lhs;rw [e2];cbv)
  all_goals
   subst Q;exact (Eq.refl _).trans (by first | rw [sm,jx (by omega)] | rw [sm,eO (by omega)] | rw [fg,jx (by omega)] | rw [fg,eO (by omega)])
omit ho in
def zI (o:aK) (s:ByteArray) (i:Int):Bool:=match o.yJ s i with | some c=>sm c || (i !=0&&(fg c || c==95)) | none=>false
omit ho in
def Bp (o:aK) (s:ByteArray):Bool:=eU (zI o s) 0 s.size&&i_ s.size 1 20
def pY (a0:ByteArray) (i:Int):St:=⟨E 35 [(0,As a0),(3,Ai i)],O 35 []⟩
def m_ (a0:ByteArray):St:=⟨E 35 [(0,As a0)],O 35 []⟩
def ng (a0:ByteArray):St:=⟨E 35 [(0,As a0),(2,Ab false)],O 35 []⟩
def pZ (a0:ByteArray) (i:Int):St:=⟨E 36 [(0,As a0),(3,Ai i)],O 36 []⟩
def ni (a0:ByteArray):St:=⟨E 36 [(0,As a0)],O 36 []⟩
def nj (a0:ByteArray):St:=⟨E 36 [(0,As a0),(2,Ab false)],O 36 []⟩
theorem Bq (a0:ByteArray) (ha:(a0.size:Int)<=9000000000000000000):∀i:Int,0<=i->i<=(a0.size:Int)->o.loop 17300 (pY a0 i)=some (if eU (zI o a0) i a0.size then (.exit 0,m_ a0)else (.ret,ng a0)):=by
 refine cU (P:=fun i=>o.loop 17300 (pY a0 i)=some (if eU (zI o a0) i a0.size then (.exit 0,m_ a0)else (.ret,ng a0))) (a0.size:Int) ?_;intro i h0 h1 ih;try dsimp only at ih |-
 refine ho.gC fun R Q=> ?_
 obtain ⟨n1,e1,g1⟩:=uh ho a0;conv=>lhs;cbv;rw [e1];cbv
 rcases bB ho i n1 with ⟨e2,g2⟩|⟨e2,g2⟩<;>(conv=>lhs;rw [e2];cbv)
 ·subst Q;rw [iq (by omega)];rfl
 ·obtain ⟨n2,e3⟩:∃(n2:Int),o.yJ a0 i=some n2:=⟨_,by first | assumption | exact G0 ho (by omega) (by omega)⟩
  conv=>lhs;rw [e3];cbv
  cases e4:sm n2
  ·conv=>lhs;rw [Cy ho,e4];cbv
   rcases ak ho i 0 with ⟨e6,g6⟩|⟨e6,g6⟩<;>(conv=>lhs;rw [e6];cbv)
   ·conv=>lhs;(try (rw [e3];cbv))
    cases e7:fg n2
    ·conv=>lhs;rw [zH ho,e7];cbv;(try (rw [e3];cbv))
     rcases cH ho n2 95 with ⟨e9,g9⟩|⟨e9,g9⟩<;>(conv=>lhs;rw [e9];cbv)
     ·obtain ⟨n3,e10,g10⟩:=bA ho i 1;conv=>lhs;rw [e10];cbv
      subst Q;rw [kR (by omega) (by unfold zI;rw [e3];simp [*])];rw [show n3=i+1 by omega];exact ih (by omega)
     ·subst Q;rw [lZ (by omega) (by unfold zI;rw [e3];simp [*])];rfl
    ·obtain ⟨n3,e9,g9⟩:=bA ho i 1;conv=>lhs;rw [zH ho,e7];cbv;rw [e9];cbv
     subst Q;rw [kR (by omega) (by unfold zI;rw [e3];simp [*])];rw [show n3=i+1 by omega];exact ih (by omega)
   ·subst Q;rw [lZ (by omega) (by unfold zI;rw [e3];simp [*])];rfl
  ·obtain ⟨n3,e6,g6⟩:=bA ho i 1;conv=>lhs;rw [Cy ho,e4];cbv;rw [e6];cbv
   subst Q;rw [kR (by omega) (by unfold zI;rw [e3];simp [*])];rw [show n3=i+1 by omega];exact ih (by omega)
theorem xS (a0:ByteArray) (ha:(a0.size:Int)<=9000000000000000000):o.call 173 [As a0] []=Ar (Ab (Bp o a0)):=by
 have hl:=Bq ho a0 ha 0 (Int.le_refl _) (by omega);refine ho.aI fun R Q=> ?_
 conv=>lhs;cbv
 conv at hl=>lhs;cbv
 cases hc:eU (zI o a0) 0 a0.size<;>(conv=>lhs;rw [hl,hc];cbv)
 ·subst Q;try rw [hc]
  exact (Eq.refl _).trans (by simp_all [Bp])
 ·obtain ⟨n1,e2,g2⟩:=uh ho a0;obtain ⟨b1,e3⟩:=kx (i_ n1 1 20);conv=>lhs;rw [e2];cbv;rw [ax ho,e3];cbv
  subst Q;try rw [hc]
  exact (Eq.refl _).trans (by simp_all [Bp])
theorem Br (a0:ByteArray) (ha:(a0.size:Int)<=9000000000000000000):∀i:Int,0<=i->i<=(a0.size:Int)->o.loop 20400 (pZ a0 i)=some (if eU (zI o a0) i a0.size then (.exit 0,ni a0)else (.ret,nj a0)):=by
 refine cU (P:=fun i=>o.loop 20400 (pZ a0 i)=some (if eU (zI o a0) i a0.size then (.exit 0,ni a0)else (.ret,nj a0))) (a0.size:Int) ?_;intro i h0 h1 ih;try dsimp only at ih |-
 refine ho.gC fun R Q=> ?_
 obtain ⟨n1,e1,g1⟩:=uh ho a0;conv=>lhs;cbv;rw [e1];cbv
 rcases bB ho i n1 with ⟨e2,g2⟩|⟨e2,g2⟩<;>(conv=>lhs;rw [e2];cbv)
 ·subst Q;rw [iq (by omega)];rfl
 ·obtain ⟨n2,e3⟩:∃(n2:Int),o.yJ a0 i=some n2:=⟨_,by first | assumption | exact G0 ho (by omega) (by omega)⟩
  obtain ⟨n3,e4⟩:∃n3,o.wrap .i64 n2=n3:=⟨_,rfl⟩
  obtain rfl:n3=n2:=e4.symm.trans (Jd ho (LR ho e3));conv=>lhs;rw [e3];cbv;rw [e4];cbv
  rcases aR n3 97 122 with ⟨e5,g5⟩|⟨e5,g5⟩
  ·conv=>lhs;rw [aH ho,e5];cbv
   rcases ak ho i 0 with ⟨e7,g7⟩|⟨e7,g7⟩<;>(conv=>lhs;rw [e7];cbv)
   ·rcases aR n3 48 57 with ⟨e8,g8⟩|⟨e8,g8⟩
    ·conv=>lhs;rw [aH ho,e8];cbv
     rcases cH ho n3 95 with ⟨e10,g10⟩|⟨e10,g10⟩<;>(conv=>lhs;rw [e10];cbv)
     ·obtain ⟨n4,e11,g11⟩:=bA ho i 1;conv=>lhs;rw [e11];cbv
      subst Q;rw [kR (by omega) (by unfold zI;rw [e3];simp [sm,fg, *])];rw [show n4=i+1 by omega];exact ih (by omega)
     ·subst Q;rw [lZ (by omega) (by unfold zI;rw [e3];simp [sm,fg, *])];rfl
    ·obtain ⟨n4,e10,g10⟩:=bA ho i 1;conv=>lhs;rw [aH ho,e8];cbv;rw [e10];cbv
     subst Q;rw [kR (by omega) (by unfold zI;rw [e3];simp [sm,fg, *])];rw [show n4=i+1 by omega];exact ih (by omega)
   ·subst Q;rw [lZ (by omega) (by unfold zI;rw [e3];simp [sm,fg, *])];rfl
  ·obtain ⟨n4,e7,g7⟩:=bA ho i 1;conv=>lhs;rw [aH ho,e5];cbv;rw [e7];cbv
   subst Q;rw [kR (by omega) (by unfold zI;rw [e3];simp [sm,fg, *])];rw [show n4=i+1 by omega];exact ih (by omega)
theorem xT (a0:ByteArray) (ha:(a0.size:Int)<=9000000000000000000):o.call 204 [As a0] []=Ar (Ab (Bp o a0)):=by
 have hl:=Br ho a0 ha 0 (Int.le_refl _) (by omega);refine ho.aI fun R Q=> ?_
 conv=>lhs;cbv
 conv at hl=>lhs;cbv
 cases hc:eU (zI o a0) 0 a0.size<;>(conv=>lhs;rw [hl,hc];cbv)
 ·subst Q;try rw [hc]
  exact (Eq.refl _).trans (by simp_all [Bp])
 ·obtain ⟨n1,e2,g2⟩:=uh ho a0;obtain ⟨b1,e3⟩:=kx (i_ n1 1 20);conv=>lhs;rw [e2];cbv;rw [aH ho,e3];cbv
  subst Q;try rw [hc]
  exact (Eq.refl _).trans (by simp_all [Bp])
end
def iP (o:aK) (k n:Int) (s:ByteArray) (l:List D):Bool:=
 if k=1 then i_ n (-1000000000000) 1000000000000&&decide (s=⟨#[]⟩)&&decide ((l.length:Int)=0)
 else if k=2 then Bp o s&&decide (n=0)&&decide ((l.length:Int)=0)
 else if k=3 then i_ n 0 1000000&&decide (s=⟨#[]⟩)&&decide ((l.length:Int)=0)
 else if k=4 then decide (n=0)&&decide (s=⟨#[]⟩)&&decide ((l.length:Int)<=20)
 else if k=5 then decide (n=0)&&decide (s=⟨#[]⟩)&&decide ((l.length:Int)<=60)
 else false
def Tm:Nat->D->Prop
 | 0,_=>False
 | n+1,d=>∃k m s l,d= .agg [.int .i64 k,.int .i64 m,.str s,.lst l]/\(s.size:Int)<=1048576/\(l.length:Int)<=1048576/\∀x∈l,Tm n x
section
variable {o:aK} (ho:aU cF bE o)
include ho
theorem JX (a0_0 a0_1:Int) (a0_2:ByteArray) (a0_3:List D) (ha:(a0_2.size:Int)<=9000000000000000000):o.call 249 [At a0_0 a0_1 a0_2 a0_3] []=Ar (Ab (iP o a0_0 a0_1 a0_2 a0_3)):=by
 refine ho.aI fun R Q=> ?_
 conv=>lhs;cbv
 rcases ak ho a0_0 1 with ⟨e1,g1⟩|⟨e1,g1⟩<;>(conv=>lhs;rw [e1];cbv)
 ·rcases ak ho a0_0 2 with ⟨e2,g2⟩|⟨e2,g2⟩<;>(conv=>lhs;rw [e2];cbv)
  ·rcases ak ho a0_0 3 with ⟨e3,g3⟩|⟨e3,g3⟩<;>(conv=>lhs;rw [e3];cbv)
   ·rcases ak ho a0_0 4 with ⟨e4,g4⟩|⟨e4,g4⟩<;>(conv=>lhs;rw [e4];cbv)
    ·rcases ak ho a0_0 5 with ⟨e5,g5⟩|⟨e5,g5⟩<;>(conv=>lhs;rw [e5];cbv)
     ·subst Q;exact (Eq.refl _).trans (by subst_vars;simp_all [iP])
     ·rcases ak ho a0_1 0 with ⟨e6,g6⟩|⟨e6,g6⟩<;>(conv=>lhs;rw [e6];cbv)
      ·subst Q;exact (Eq.refl _).trans (by subst_vars;simp_all [iP])
      ·rcases aP ho a0_2 ⟨#[]⟩with ⟨e7,g7⟩|⟨e7,g7⟩<;>(conv=>lhs;rw [e7];cbv)
       ·subst Q;exact (Eq.refl _).trans (by subst_vars;simp_all [iP])
       ·obtain ⟨n1,e8,g8⟩:=aB ho a0_3;conv=>lhs;rw [e8];cbv
        rcases jy ho n1 60 with ⟨e9,g9⟩|⟨e9,g9⟩<;>(conv=>lhs;rw [e9];cbv)
        all_goals
         subst Q;exact (Eq.refl _).trans (by subst_vars;simp_all [iP])
    ·rcases ak ho a0_1 0 with ⟨e5,g5⟩|⟨e5,g5⟩<;>(conv=>lhs;rw [e5];cbv)
     ·subst Q;exact (Eq.refl _).trans (by subst_vars;simp_all [iP])
     ·rcases aP ho a0_2 ⟨#[]⟩with ⟨e6,g6⟩|⟨e6,g6⟩<;>(conv=>lhs;rw [e6];cbv)
      ·subst Q;exact (Eq.refl _).trans (by subst_vars;simp_all [iP])
      ·obtain ⟨n1,e7,g7⟩:=aB ho a0_3;conv=>lhs;rw [e7];cbv
       rcases jy ho n1 20 with ⟨e8,g8⟩|⟨e8,g8⟩<;>(conv=>lhs;rw [e8];cbv)
       all_goals
        subst Q;exact (Eq.refl _).trans (by subst_vars;simp_all [iP])
   ·rcases aR a0_1 0 1000000 with ⟨e4,g4⟩|⟨e4,g4⟩
    ·conv=>lhs;rw [ax ho,e4];cbv
     subst Q;exact (Eq.refl _).trans (by subst_vars;simp_all [iP])
    ·conv=>lhs;rw [ax ho,e4];cbv
     rcases aP ho a0_2 ⟨#[]⟩with ⟨e6,g6⟩|⟨e6,g6⟩<;>(conv=>lhs;rw [e6];cbv)
     ·subst Q;exact (Eq.refl _).trans (by subst_vars;simp_all [iP])
     ·obtain ⟨n1,e7,g7⟩:=aB ho a0_3;conv=>lhs;rw [e7];cbv
      rcases ak ho n1 0 with ⟨e8,g8⟩|⟨e8,g8⟩<;>(conv=>lhs;rw [e8];cbv)
      all_goals
       subst Q;exact (Eq.refl _).trans (by subst_vars;simp_all [iP])
  ·rcases ak ho a0_1 0 with ⟨e3,g3⟩|⟨e3,g3⟩<;>(conv=>lhs;rw [e3];cbv)
   ·subst Q;exact (Eq.refl _).trans (by subst_vars;simp_all [iP])
   ·cases e4:Bp o a0_2
    ·conv=>lhs;rw [xS ho a0_2 (by omega),e4];cbv
     subst Q;exact (Eq.refl _).trans (by subst_vars;simp_all [iP])
    ·obtain ⟨n1,e6,g6⟩:=aB ho a0_3;conv=>lhs;rw [xS ho a0_2 (by omega),e4];cbv;rw [e6];cbv
     rcases ak ho n1 0 with ⟨e7,g7⟩|⟨e7,g7⟩<;>(conv=>lhs;rw [e7];cbv)
     all_goals
      subst Q;exact (Eq.refl _).trans (by subst_vars;simp_all [iP])
 ·rcases aR a0_1 (-1000000000000) 1000000000000 with ⟨e2,g2⟩|⟨e2,g2⟩
  ·conv=>lhs;rw [ax ho,e2];cbv
   subst Q;exact (Eq.refl _).trans (by subst_vars;simp_all [iP])
  ·conv=>lhs;rw [ax ho,e2];cbv
   rcases aP ho a0_2 ⟨#[]⟩with ⟨e4,g4⟩|⟨e4,g4⟩<;>(conv=>lhs;rw [e4];cbv)
   ·subst Q;exact (Eq.refl _).trans (by subst_vars;simp_all [iP])
   ·obtain ⟨n1,e5,g5⟩:=aB ho a0_3;conv=>lhs;rw [e5];cbv
    rcases ak ho n1 0 with ⟨e6,g6⟩|⟨e6,g6⟩<;>(conv=>lhs;rw [e6];cbv)
    all_goals
     subst Q;exact (Eq.refl _).trans (by subst_vars;simp_all [iP])
theorem JY (a0_0 a0_1:Int) (a0_2:ByteArray) (a0_3:List D) (ha:(a0_2.size:Int)<=9000000000000000000):o.call 320 [At a0_0 a0_1 a0_2 a0_3] []=Ar (Ab (iP o a0_0 a0_1 a0_2 a0_3)):=by
 refine ho.aI fun R Q=> ?_
 conv=>lhs;cbv
 rcases ak ho a0_0 1 with ⟨e1,g1⟩|⟨e1,g1⟩<;>(conv=>lhs;rw [e1];cbv)
 ·rcases ak ho a0_0 2 with ⟨e2,g2⟩|⟨e2,g2⟩<;>(conv=>lhs;rw [e2];cbv)
  ·rcases ak ho a0_0 3 with ⟨e3,g3⟩|⟨e3,g3⟩<;>(conv=>lhs;rw [e3];cbv)
   ·rcases ak ho a0_0 4 with ⟨e4,g4⟩|⟨e4,g4⟩<;>(conv=>lhs;rw [e4];cbv)
    ·rcases ak ho a0_0 5 with ⟨e5,g5⟩|⟨e5,g5⟩<;>(conv=>lhs;rw [e5];cbv)
     ·subst Q;exact (Eq.refl _).trans (by subst_vars;simp_all [iP])
     ·rcases ak ho a0_1 0 with ⟨e6,g6⟩|⟨e6,g6⟩<;>(conv=>lhs;rw [e6];cbv)
      ·subst Q;exact (Eq.refl _).trans (by subst_vars;simp_all [iP])
      ·rcases aP ho a0_2 ⟨#[]⟩with ⟨e7,g7⟩|⟨e7,g7⟩<;>(conv=>lhs;rw [e7];cbv)
       ·subst Q;exact (Eq.refl _).trans (by subst_vars;simp_all [iP])
       ·obtain ⟨n1,e8,g8⟩:=aB ho a0_3;conv=>lhs;rw [e8];cbv
        rcases jy ho n1 60 with ⟨e9,g9⟩|⟨e9,g9⟩<;>(conv=>lhs;rw [e9];cbv)
        all_goals
         subst Q;exact (Eq.refl _).trans (by subst_vars;simp_all [iP])
    ·rcases ak ho a0_1 0 with ⟨e5,g5⟩|⟨e5,g5⟩<;>(conv=>lhs;rw [e5];cbv)
     ·subst Q;exact (Eq.refl _).trans (by subst_vars;simp_all [iP])
     ·rcases aP ho a0_2 ⟨#[]⟩with ⟨e6,g6⟩|⟨e6,g6⟩<;>(conv=>lhs;rw [e6];cbv)
      ·subst Q;exact (Eq.refl _).trans (by subst_vars;simp_all [iP])
      ·obtain ⟨n1,e7,g7⟩:=aB ho a0_3;conv=>lhs;rw [e7];cbv
       rcases jy ho n1 20 with ⟨e8,g8⟩|⟨e8,g8⟩<;>(conv=>lhs;rw [e8];cbv)
       all_goals
        subst Q;exact (Eq.refl _).trans (by subst_vars;simp_all [iP])
   ·rcases aR a0_1 0 1000000 with ⟨e4,g4⟩|⟨e4,g4⟩
    ·conv=>lhs;rw [aH ho,e4];cbv
     subst Q;exact (Eq.refl _).trans (by subst_vars;simp_all [iP])
    ·conv=>lhs;rw [aH ho,e4];cbv
     rcases aP ho a0_2 ⟨#[]⟩with ⟨e6,g6⟩|⟨e6,g6⟩<;>(conv=>lhs;rw [e6];cbv)
     ·subst Q;exact (Eq.refl _).trans (by subst_vars;simp_all [iP])
     ·obtain ⟨n1,e7,g7⟩:=aB ho a0_3;conv=>lhs;rw [e7];cbv
      rcases ak ho n1 0 with ⟨e8,g8⟩|⟨e8,g8⟩<;>(conv=>lhs;rw [e8];cbv)
      all_goals
       subst Q;exact (Eq.refl _).trans (by subst_vars;simp_all [iP])
  ·cases e3:Bp o a0_2
   ·conv=>lhs;rw [xT ho a0_2 (by omega),e3];cbv
    subst Q;exact (Eq.refl _).trans (by subst_vars;simp_all [iP])
   ·conv=>lhs;rw [xT ho a0_2 (by omega),e3];cbv
    rcases ak ho a0_1 0 with ⟨e5,g5⟩|⟨e5,g5⟩<;>(conv=>lhs;rw [e5];cbv)
    ·subst Q;exact (Eq.refl _).trans (by subst_vars;simp_all [iP])
    ·obtain ⟨n1,e6,g6⟩:=aB ho a0_3;conv=>lhs;rw [e6];cbv
     rcases ak ho n1 0 with ⟨e7,g7⟩|⟨e7,g7⟩<;>(conv=>lhs;rw [e7];cbv)
     all_goals
      subst Q;exact (Eq.refl _).trans (by subst_vars;simp_all [iP])
 ·rcases aR a0_1 (-1000000000000) 1000000000000 with ⟨e2,g2⟩|⟨e2,g2⟩
  ·conv=>lhs;rw [aH ho,e2];cbv
   subst Q;exact (Eq.refl _).trans (by subst_vars;simp_all [iP])
  ·conv=>lhs;rw [aH ho,e2];cbv
   rcases aP ho a0_2 ⟨#[]⟩with ⟨e4,g4⟩|⟨e4,g4⟩<;>(conv=>lhs;rw [e4];cbv)
   ·subst Q;exact (Eq.refl _).trans (by subst_vars;simp_all [iP])
   ·obtain ⟨n1,e5,g5⟩:=aB ho a0_3;conv=>lhs;rw [e5];cbv
    rcases ak ho n1 0 with ⟨e6,g6⟩|⟨e6,g6⟩<;>(conv=>lhs;rw [e6];cbv)
    all_goals
     subst Q;exact (Eq.refl _).trans (by subst_vars;simp_all [iP])
end
def jt (o:aK):Nat->D->Int
 | d+1,.agg [.int _ k,.int _ n,.str s,.lst l]=>if iP o k n s l then (if 1+bP (jt o d) l<=300 then 1+bP (jt o d) l else 301)else 301
 | _,_=>301
theorem oV (o:aK) (d:Nat) (t:D):1<=jt o d t/\jt o d t<=301:=by
 unfold jt;split
 ·rename_i d _ k _ n s l;have:0<=bP (jt o d) l:=ez (fun x=>(oV o d x).1) l;split
  ·split<;>omega
  ·omega
 ·omega
def sw (o:aK) (t:D):Bool:=decide (jt o 8 t<=300)
theorem dc {n:Nat} {d:D} (h:Tm n d):∃m k c s l,n=m+1/\d= .agg [.int .i64 k,.int .i64 c,.str s,.lst l]/\(s.size:Int)<=1048576/\(l.length:Int)<=1048576/\∀x∈l,Tm m x:=by
 cases n with
 | zero=>exact h.elim
 | succ m=>obtain ⟨k,c,s,l,r⟩:=h;exact ⟨m,k,c,s,l,rfl,r⟩
theorem jl {n:Nat} {k c:Int} {s:ByteArray} {l:List D} (h:Tm n (.agg [.int .i64 k,.int .i64 c,.str s,.lst l])):∃m,n=m+1/\(s.size:Int)<=1048576/\(l.length:Int)<=1048576/\∀x∈l,Tm m x:=by
 obtain ⟨m,k',c',s',l',e,e2,r⟩:=dc h;injection e2 with e2;simp only [List.cons.injEq,D.int.injEq,D.str.injEq,D.lst.injEq,true_and,and_true]at e2;obtain ⟨rfl,rfl,rfl,rfl⟩:=e2;exact ⟨m,e,r⟩
def MS (o:aK) (d:Nat):Prop:=∀m k n s l,Tm m (.agg [.int .i64 k,.int .i64 n,.str s,.lst l])->∀a:Int,a=9-d->o.call 153 [.agg [.d (.int .i64 k),.d (.int .i64 n),.d (.str s),.d (.lst l)],.d (.int .i64 a)] []=some ⟨.d (.int .i64 (jt o d (.agg [.int .i64 k,.int .i64 n,.str s,.lst l]))),[],[]⟩
def LK (o:aK) (d:Nat):Prop:=∀m k n s l,Tm m (.agg [.int .i64 k,.int .i64 n,.str s,.lst l])->∀a b:Int,a=d->0<=b->b<=300->o.call 245 [.agg [.d (.int .i64 k),.d (.int .i64 n),.d (.str s),.d (.lst l)],.d (.int .i64 a),.d (.int .i64 b)] []=some ⟨.d (.int .i64 (if jt o d (.agg [.int .i64 k,.int .i64 n,.str s,.lst l])<=b then b-jt o d (.agg [.int .i64 k,.int .i64 n,.str s,.lst l])else-1)),[],[]⟩
section
variable {o:aK} (ho:aU cF bE o)
include ho
def aY (a1 i:Int) (a0_3:List D) (n1 i1:Int):St:=⟨E 32 [(1,Ai a1),(5,Ai i),(16,Al a0_3),(17,Ai n1),(18,Ai i1)],O 32 []⟩
def dQ (n6:Int):St:=⟨E 32 [(4,Ai 301),(5,Ai n6)],O 32 []⟩
def dR (i:Int):St:=⟨E 32 [(5,Ai i)],O 32 []⟩
def jF (a1 i a0_0 a0_1:Int) (a0_2:ByteArray) (a0_3:List D) (i1:Int):St:=⟨E 42 [(1,Ai a1),(2,Ai i),(3,.sp [.int .i64 a0_0,.int .i64 a0_1,.str a0_2,.lst a0_3] 0),(7,Ai i1)],O 42 []⟩
def fU (i:Int):St:=⟨E 42 [(2,Ai i)],O 42 []⟩
theorem EX (d:Nat) (hd:d<=7) (IH:MS o d) (a1:Int) (ha1:a1=8-d) (a0_3:List D) (m:Nat) (hT:∀x∈a0_3,Tm m x) (n1:Int) (hn:(a0_3.length:Int)=n1) (hl:n1<=1048576):∀i1:Int,0<=i1->i1<=(n1:Int)->∀i:Int,1<=i->i<=300->(i+bP (jt o d) (a0_3.drop i1.toNat)<=300->o.loop 15300 (aY a1 i a0_3 n1 i1)=some (.exit 0,dR (i+bP (jt o d) (a0_3.drop i1.toNat))))/\(¬i+bP (jt o d) (a0_3.drop i1.toNat)<=300->∃v,o.loop 15300 (aY a1 i a0_3 n1 i1)=some (.ret,dQ v)):=by
 refine cU (P:=fun i1=>∀i:Int,1<=i->i<=300->(i+bP (jt o d) (a0_3.drop i1.toNat)<=300->o.loop 15300 (aY a1 i a0_3 n1 i1)=some (.exit 0,dR (i+bP (jt o d) (a0_3.drop i1.toNat))))/\(¬i+bP (jt o d) (a0_3.drop i1.toNat)<=300->∃v,o.loop 15300 (aY a1 i a0_3 n1 i1)=some (.ret,dQ v))) (n1:Int) ?_;intro i1 h0 h1 ih;try dsimp only at ih |-
 intro i hc0 hc1;rcases bB ho i1 n1 with ⟨e1,g1⟩|⟨e1,g1⟩
 ·rw [bR hn (by omega)];simp only [bP,Int.add_zero];exact ⟨fun _=>(ho.ay (by cbv;repeat (simp only [e1];try cbv)):o.loop 15300 (aY a1 i a0_3 n1 i1)=some (.exit 0,dR i)),fun h=>absurd hc1 h⟩
 ·obtain ⟨x,hx0,hx1,hx2⟩:=aD hn h0 g1;obtain ⟨m',n2,n3,s1,l1,rfl,rfl,hs,hl,ht⟩:=dc (hT _ hx2);have e2:=av ho h0 hx0;obtain ⟨n4,e3⟩:=kx (o.ar .add .i64 a1 1);try have g3:n4=a1+1:=e3.symm.trans (cM ho (by omega) (by omega))
  obtain ⟨n5,g4,e4⟩:∃n5,n5=jt o d (.agg [.int .i64 n2,.int .i64 n3,.str s1,.lst l1])/\o.call 153 [At n2 n3 s1 l1,Ai n4] []=Ar (Ai n5):=⟨_,rfl,IH _ _ _ _ _ (hT _ hx2) _ (by omega)⟩
  have b4:=oV o d (.agg [.int .i64 n2,.int .i64 n3,.str s1,.lst l1]);have s4:=ez (fun x=>(oV o d x).1) (a0_3.drop (i1+1).toNat);obtain ⟨n6,e5⟩:=kx (o.ar .add .i64 i n5);try have g5:n6=i+n5:=e5.symm.trans (cM ho (by omega) (by omega))
  rcases fe ho n6 300 with ⟨e6,g6⟩|⟨e6,g6⟩
  ·obtain ⟨n7,e7⟩:=kx (o.ar .add .i64 i1 1);try have g7:n7=i1+1:=e7.symm.trans (cM ho (by omega) (by omega))
   rw [hx1];simp only [bP];have ih2:=ih (by omega) n6 (by omega) (by omega);rw [show n6+bP (jt o d) (a0_3.drop (i1+1).toNat)=i+(jt o d (.agg [.int .i64 n2,.int .i64 n3,.str s1,.lst l1])+bP (jt o d) (a0_3.drop (i1+1).toNat)) by omega,show i1+1=n7 by omega]at ih2;rw [show i1+1=n7 by omega];exact ⟨fun h=>(fun z (hz:o.loop 15300 (aY a1 n6 a0_3 n1 n7)=some z)=>ho.ay (by rw [<-hz];cbv;repeat (simp only [e1,e2,e3,e4,e5,e6,e7];try cbv)):∀z,o.loop 15300 (aY a1 n6 a0_3 n1 n7)=some z->o.loop 15300 (aY a1 i a0_3 n1 i1)=some z) _ (ih2.1 h),fun h=>(ih2.2 h).imp fun v h=>(fun z (hz:o.loop 15300 (aY a1 n6 a0_3 n1 n7)=some z)=>ho.ay (by rw [<-hz];cbv;repeat (simp only [e1,e2,e3,e4,e5,e6,e7];try cbv)):∀z,o.loop 15300 (aY a1 n6 a0_3 n1 n7)=some z->o.loop 15300 (aY a1 i a0_3 n1 i1)=some z) _ h⟩
  ·rw [hx1];simp only [bP];exact ⟨fun h=>by omega,fun _=>⟨_,(ho.ay (by cbv;repeat (simp only [e1,e2,e3,e4,e5,e6];try cbv)):o.loop 15300 (aY a1 i a0_3 n1 i1)=some (.ret,dQ n6))⟩⟩
theorem EY (d:Nat) (hd:d<=7) (IH:MS o d) (m:Nat) (a0_0 a0_1:Int) (a0_2:ByteArray) (a0_3:List D) (hT:Tm m (.agg [.int .i64 a0_0,.int .i64 a0_1,.str a0_2,.lst a0_3])) (a1:Int) (ha1:a1=8-d):o.call 153 [At a0_0 a0_1 a0_2 a0_3,Ai a1] []=Ar (Ai (jt o (d+1) (.agg [.int .i64 a0_0,.int .i64 a0_1,.str a0_2,.lst a0_3]))):=by
 obtain ⟨m,rfl,hs,hl,hT⟩:=jl hT;have ha:(a0_2.size:Int)<=9000000000000000000:=by omega
 rcases fe ho a1 8 with ⟨e1,g1⟩|⟨e1,g1⟩
 ·cases e2:iP o a0_0 a0_1 a0_2 a0_3
  ·have e3:o.call 249 [At a0_0 a0_1 a0_2 a0_3] []=Ar (Ab false):=(JX ho a0_0 a0_1 a0_2 a0_3 (by omega)).trans (by rw [e2]);exact (ho.aq (by cbv;repeat (simp only [e1,e2,e3];try cbv)):_=Ar (Ai 301)).trans (by simp only [jt];rw [e2];rfl)
  ·have e3:o.call 249 [At a0_0 a0_1 a0_2 a0_3] []=Ar (Ab true):=(JX ho a0_0 a0_1 a0_2 a0_3 (by omega)).trans (by rw [e2]);obtain ⟨n1,e4,g4⟩:=aB ho a0_3;have hl:=EX ho d hd IH a1 ha1 a0_3 m hT n1 g4.symm (by omega) 0 (Int.le_refl _) (by omega) 1 (by omega) (by omega);rw [show (0:Int).toNat=0 from rfl,List.drop_zero]at hl;by_cases hc:1+bP (jt o d) a0_3<=300
   ·obtain ⟨n2,g5,e5⟩:∃n2,n2=1+bP (jt o d) a0_3/\o.loop 15300 (aY a1 1 a0_3 n1 0)=some (.exit 0,dR n2):=⟨_,rfl,hl.1 hc⟩
    exact (ho.aq (by cbv at e5;cbv;repeat (simp only [e1,e2,e3,e4,e5];try cbv)):_=Ar (Ai n2)).trans (by simp only [jt];rw [e2,if_pos rfl,if_pos hc,g5])
   ·obtain ⟨n2,e5⟩:∃n2,o.loop 15300 (aY a1 1 a0_3 n1 0)=some (.ret,dQ n2):=hl.2 hc;exact (ho.aq (by cbv at e5;cbv;repeat (simp only [e1,e2,e3,e4,e5];try cbv)):_=Ar (Ai 301)).trans (by simp only [jt];rw [e2,if_pos rfl,if_neg hc])
 ·omega
theorem pB {a1 a0_0 a0_1:Int} {a0_2:ByteArray} {a0_3:List D} (ha:(a0_2.size:Int)<=9000000000000000000) (e1:o.cmp .gtr a1 8=true):o.call 153 [At a0_0 a0_1 a0_2 a0_3,Ai a1] []=Ar (Ai 301):=by
 refine ho.aq ?_
 cbv
 repeat' (first | (rw [e1];try cbv))
theorem measure (d:Nat) (hd:d<=8):MS o d:=by
 induction d with
 | zero=>
  intro m k n s l h a ha;obtain ⟨m,rfl,hs,hl,hT⟩:=jl h;exact (pB ho (by omega) (Ny ho (by omega))).trans (by simp only [jt])
 | succ d ih=>
  intro m k n s l h a ha;exact EY ho d (by omega) (ih (by omega)) m k n s l h a (by omega)
theorem Ii (d:Nat) (hd:d<=7) (IH:LK o d) (a1:Int) (ha1:a1=d+1) (a0_0 a0_1:Int) (a0_2:ByteArray) (a0_3:List D) (m:Nat) (hT:∀x∈a0_3,Tm m x) (n1:Int) (hn:(a0_3.length:Int)=n1) (hl:n1<=1048576):∀i1:Int,0<=i1->i1<=(n1:Int)->∀i:Int,-1<=i->i<=300->o.loop 24500 (jF a1 i a0_0 a0_1 a0_2 a0_3 i1)=some (.exit 0,fU (if bP (jt o d) (a0_3.drop i1.toNat)<=i then i-bP (jt o d) (a0_3.drop i1.toNat)else-1)):=by
 refine cU (P:=fun i1=>∀i:Int,-1<=i->i<=300->o.loop 24500 (jF a1 i a0_0 a0_1 a0_2 a0_3 i1)=some (.exit 0,fU (if bP (jt o d) (a0_3.drop i1.toNat)<=i then i-bP (jt o d) (a0_3.drop i1.toNat)else-1))) (n1:Int) ?_;intro i1 h0 h1 ih;try dsimp only at ih |-
 intro i hc0 hc1;have s0:=ez (fun x=>(oV o d x).1) (a0_3.drop i1.toNat);refine ho.gC fun R Q=> ?_
 have e1:o.len a0_3=n1:=(lS ho _).trans hn;conv=>lhs;cbv;rw [e1];cbv
 rcases bB ho i1 n1 with ⟨e2,g2⟩|⟨e2,g2⟩<;>(conv=>lhs;rw [e2];cbv)
 ·subst Q;show some (Out.exit 0,fU i)=_;rw [bR hn (by omega)];simp only [bP,Int.sub_zero];by_cases h:0<=i
  · rw [if_pos h]
  · rw [if_neg h,show i= -1 by omega]
 ·rcases iQ ho i 0 with ⟨e3,g3⟩|⟨e3,g3⟩<;>(conv=>lhs;rw [e3];cbv)
  ·subst Q;show some (Out.exit 0,fU i)=_;rw [if_neg (by omega),show i= -1 by omega]
  ·obtain ⟨x,hx0,hx1,hx2⟩:=aD hn h0 g2;obtain ⟨m',n2,n3,s1,l1,rfl,rfl,hs,hl,ht⟩:=dc (hT _ hx2);have e4:=av ho h0 hx0;obtain ⟨n4,e5,g5⟩:=aS ho a1 1;have b4:=oV o d (.agg [.int .i64 n2,.int .i64 n3,.str s1,.lst l1]);have s4:=ez (fun x=>(oV o d x).1) (a0_3.drop (i1+1).toNat);obtain ⟨n5,g6,e6⟩:∃n5,n5=(if jt o d (.agg [.int .i64 n2,.int .i64 n3,.str s1,.lst l1])<=i then i-jt o d (.agg [.int .i64 n2,.int .i64 n3,.str s1,.lst l1])else-1)/\o.call 245 [.agg [.d (.int .i64 n2),.d (.int .i64 n3),.d (.str s1),.d (.lst l1)],.d (.int .i64 n4),.d (.int .i64 i)] []=some ⟨.d (.int .i64 n5),[],[]⟩:=⟨_,rfl,IH _ _ _ _ _ (hT _ hx2) _ _ (by omega) (by omega) (by omega)⟩
   have h5: -1<=n5/\n5<=300:=by rw [g6];split<;>omega
   obtain ⟨n6,e7,g7⟩:=bA ho i1 1;conv=>lhs;rw [e4];cbv;rw [e5];cbv;rw [e6];cbv;rw [e7];cbv
   subst Q;show o.loop 24500 (jF a1 n5 a0_0 a0_1 a0_2 a0_3 n6)=_;have ih2:=ih (by omega) n5 (by omega) (by omega);rw [show i1+1=n6 by omega]at ih2;refine ih2.trans ?_;rw [hx1,show i1+1=n6 by omega];rw [show i1+1=n6 by omega]at s4;simp only [bP];congr 3;split at g6<;>(repeat' split)<;>omega
theorem Ij (d:Nat) (hd:d<=7) (IH:LK o d) (m:Nat) (a0_0 a0_1:Int) (a0_2:ByteArray) (a0_3:List D) (hT:Tm m (.agg [.int .i64 a0_0,.int .i64 a0_1,.str a0_2,.lst a0_3])) (a1 a2:Int) (ha1:a1=d+1) (h2:0<=a2) (h3:a2<=300):o.call 245 [.agg [.d (.int .i64 a0_0),.d (.int .i64 a0_1),.d (.str a0_2),.d (.lst a0_3)],.d (.int .i64 a1),.d (.int .i64 a2)] []=some ⟨.d (.int .i64 (if jt o (d+1) (.agg [.int .i64 a0_0,.int .i64 a0_1,.str a0_2,.lst a0_3])<=a2 then a2-jt o (d+1) (.agg [.int .i64 a0_0,.int .i64 a0_1,.str a0_2,.lst a0_3])else-1)),[],[]⟩:=by
 obtain ⟨m,rfl,hs,hl,hT⟩:=jl hT;have ha:(a0_2.size:Int)<=9000000000000000000:=by omega
 have s4:=ez (fun x=>(oV o d x).1) a0_3;have b4:=oV o (d+1) (.agg [.int .i64 a0_0,.int .i64 a0_1,.str a0_2,.lst a0_3]);rcases bB ho a1 1 with ⟨e1,g1⟩|⟨e1,g1⟩
 ·rcases bB ho a2 1 with ⟨e2,g2⟩|⟨e2,g2⟩
  ·cases e3:iP o a0_0 a0_1 a0_2 a0_3
   ·have e4:o.call 320 [.agg [.d (.int .i64 a0_0),.d (.int .i64 a0_1),.d (.str a0_2),.d (.lst a0_3)]] []=some ⟨.d (.bool false),[],[]⟩:=(JY ho a0_0 a0_1 a0_2 a0_3 (by omega)).trans (by rw [e3]);have hm:jt o (d+1) (.agg [.int .i64 a0_0,.int .i64 a0_1,.str a0_2,.lst a0_3])=301:=by simp only [jt];rw [e3];rfl
    exact (ho.aq (by cbv;repeat (simp only [e1,e2,e3,e4];try cbv)):_=some ⟨.d (.int .i64 (-1)),[],[]⟩).trans (by rw [if_neg (by omega)])
   ·have e4:o.call 320 [.agg [.d (.int .i64 a0_0),.d (.int .i64 a0_1),.d (.str a0_2),.d (.lst a0_3)]] []=some ⟨.d (.bool true),[],[]⟩:=(JY ho a0_0 a0_1 a0_2 a0_3 (by omega)).trans (by rw [e3]);obtain ⟨n1,e5⟩:=kx (o.ar .sub .i64 a2 1);try have g5:n1=a2-1:=e5.symm.trans (fP ho (by omega) (by omega))
    have hl:=Ii ho d hd IH a1 (by omega) a0_0 a0_1 a0_2 a0_3 m hT _ rfl (by omega) 0 (Int.le_refl _) (by omega) n1 (by omega) (by omega);rw [show (0:Int).toNat=0 from rfl,List.drop_zero]at hl;obtain ⟨n2,g6,e6⟩:∃n2,n2=(if bP (jt o d) a0_3<=n1 then n1-bP (jt o d) a0_3 else-1)/\o.loop 24500 (jF a1 n1 a0_0 a0_1 a0_2 a0_3 0)=some (.exit 0,fU n2):=⟨_,rfl,hl⟩
    have hm:jt o (d+1) (.agg [.int .i64 a0_0,.int .i64 a0_1,.str a0_2,.lst a0_3])=(if 1+bP (jt o d) a0_3<=300 then 1+bP (jt o d) a0_3 else 301):=by simp only [jt];rw [e3,if_pos rfl]
    exact (ho.aq (by cbv at e6;cbv;repeat (simp only [e1,e2,e3,e4,e5,e6];try cbv)):_=some ⟨.d (.int .i64 n2),[],[]⟩).trans (by rw [hm,g6];congr 4;(repeat' split)<;>omega)
  ·exact (ho.aq (by cbv;repeat (simp only [e1,e2];try cbv)):_=some ⟨.d (.int .i64 (-1)),[],[]⟩).trans (by rw [if_neg (by omega)])
 ·omega
theorem yc {a1 a0_0 a0_1:Int} {a0_2:ByteArray} {a0_3:List D} {a2:Int} (ha:(a0_2.size:Int)<=9000000000000000000) (e1:o.cmp .lss a1 1=true):o.call 245 [At a0_0 a0_1 a0_2 a0_3,Ai a1,Ai a2] []=Ar (Ai (-1)):=by
 refine ho.aq ?_
 cbv
 repeat' (first | (rw [e1];try cbv))
theorem KU (d:Nat) (hd:d<=8):LK o d:=by
 induction d with
 | zero=>
  intro m k n s l h a b ha hb hb2;obtain ⟨m,rfl,hs,hl,hT⟩:=jl h;have hm:jt o 0 (.agg [.int .i64 k,.int .i64 n,.str s,.lst l])=301:=rfl;exact (yc ho (by omega) (GZ ho (by omega))).trans (by rw [if_neg (by omega)])
 | succ d ih=>
  intro m k n s l h a b ha hb hb2;exact Ij ho d (by omega) (ih (by omega)) m k n s l h a b (by omega) hb hb2
end
theorem tN:∀{n:Nat} {d:D},Tm n d->Tm (n+1) d
 | 0,_,h=>h.elim
 | n+1,_,⟨k,m,s,l,e,a,b,c⟩=>⟨k,m,s,l,e,a,b,fun x hx=>tN (c x hx)⟩
def Rt (o:aK):Nat->D->Prop
 | 0,_=>False
 | n+1,d=>∃k m s l,d= .agg [.int .i64 k,.int .i64 m,.str s,.lst l]/\iP o k m s l=true/\∀x∈l,Rt o n x
theorem ga {o:aK} {k m:Int} {s:ByteArray} {l:List D} (h:iP o k m s l=true):(s.size:Int)<=20/\(l.length:Int)<=60:=by
 unfold iP at h;have e0:(⟨#[]⟩:ByteArray).size=0:=rfl;split at h
 ·simp only [ah,decide_eq_true_eq]at h;rw [h.1.2,e0];omega
 split at h
 ·simp only [ah,decide_eq_true_eq,Bp]at h;have:=cT h.1.1.2;omega
 split at h
 ·simp only [ah,decide_eq_true_eq]at h;rw [h.1.2,e0];omega
 split at h
 ·simp only [ah,decide_eq_true_eq]at h;rw [h.1.2,e0];omega
 split at h
 ·simp only [ah,decide_eq_true_eq]at h;rw [h.1.2,e0];omega
 ·cases h
theorem j6 {o:aK}:∀{n:Nat} {d:D},Rt o n d->Tm n d
 | 0,_,h=>h.elim
 | n+1,_,⟨k,m,s,l,e,a,c⟩=>⟨k,m,s,l,e,by have:=ga a;omega,by have:=ga a;omega,fun x hx=>j6 (c x hx)⟩
theorem fL {o:aK} {n:Nat} {d:D} (h:Rt o n d):∃m k c s l,n=m+1/\d= .agg [.int .i64 k,.int .i64 c,.str s,.lst l]/\iP o k c s l=true/\∀x∈l,Rt o m x:=by
 cases n with
 | zero=>exact h.elim
 | succ m=>obtain ⟨k,c,s,l,r⟩:=h;exact ⟨m,k,c,s,l,rfl,r⟩
theorem qk {o:aK} {n:Nat} {k c:Int} {s:ByteArray} {l:List D} (h:Rt o n (.agg [.int .i64 k,.int .i64 c,.str s,.lst l])):∃m,n=m+1/\iP o k c s l=true/\∀x∈l,Rt o m x:=by
 obtain ⟨m,k',c',s',l',e,e2,r⟩:=fL h;injection e2 with e2;simp only [List.cons.injEq,D.int.injEq,D.str.injEq,D.lst.injEq,true_and,and_true]at e2;obtain ⟨rfl,rfl,rfl,rfl⟩:=e2;exact ⟨m,e,r⟩
theorem ow {f:D->Int} (hf:∀x,1<=f x):∀{xs:List D} {x:D},x∈xs->f x<=bP f xs
 | y::ys,x,h=>by
  have:=ez hf ys;have:=hf y;simp only [bP];rcases List.mem_cons.1 h with rfl | h
  ·omega
  ·have:=ow hf h;omega
theorem Fg {o:aK}:∀{d n:Nat} {t:D},Tm n t->jt o d t<=300->Rt o d t
 | 0,_,_,_,h=>by simp only [jt]at h;omega
 | d+1,n,t,ht,h=>by
  obtain ⟨m,k,c,s,l,rfl,rfl,h1,h2,h3⟩:=dc ht;simp only [jt]at h;split at h
  ·rename_i hs;split at h
   ·rename_i h5;refine ⟨k,c,s,l,rfl,hs,fun x hx=>Fg (h3 x hx) ?_⟩;have:=ow (f:=jt o d) (fun x=>(oV o d x).1) hx;omega
   ·omega
  ·omega
theorem yt {o:aK} {n:Nat} {t:D} (ht:Tm n t) (h:sw o t=true):Rt o 8 t:=Fg ht (of_decide_eq_true h)
noncomputable def bY (a b:D):Bool:= @decide (a=b) (Classical.propDecidable _)
theorem mz {a b:D} (h:a=b):bY a b=true:=by unfold bY;exact @decide_eq_true _ (Classical.propDecidable _) h
theorem dG {a b:D} (h:a≠b):bY a b=false:=by unfold bY;exact @decide_eq_false _ (Classical.propDecidable _) h
theorem mA {a b:D} (h:bY a b=true):a=b:=by unfold bY at h;exact @of_decide_eq_true _ (Classical.propDecidable _) h
theorem kF {a b:D} (h:bY a b=false):a≠b:=by unfold bY at h;exact @of_decide_eq_false _ (Classical.propDecidable _) h
section
variable {o:aK} (ho:aU cF bE o)
include ho
theorem ql {m:Nat} (a0_0 a0_1:Int) (a0_2:ByteArray) (a0_3:List D) (hT:Tm m (.agg [.int .i64 a0_0,.int .i64 a0_1,.str a0_2,.lst a0_3])):o.call 68 [.agg [.d (.int .i64 a0_0),.d (.int .i64 a0_1),.d (.str a0_2),.d (.lst a0_3)]] []=some ⟨.d (.bool (sw o (.agg [.int .i64 a0_0,.int .i64 a0_1,.str a0_2,.lst a0_3]))),[],[]⟩:=by
 refine ho.aI fun R Q=> ?_
 obtain ⟨n1,he1⟩:∃v,jt o 8 (.agg [.int .i64 a0_0,.int .i64 a0_1,.str a0_2,.lst a0_3])=v:=⟨_,rfl⟩
 have e1:o.call 153 [.agg [.d (.int .i64 a0_0),.d (.int .i64 a0_1),.d (.str a0_2),.d (.lst a0_3)],.d (.int .i64 1)] []=some ⟨.d (.int .i64 n1),[],[]⟩:=(measure ho 8 (by omega) _ _ _ _ _ hT _ (by omega)).trans (by rw [he1]);conv=>lhs;cbv;rw [e1];cbv
 rcases jy ho n1 300 with ⟨e2,g2⟩|⟨e2,g2⟩<;>(conv=>lhs;rw [e2];cbv)
 all_goals
  subst Q;exact (Eq.refl _).trans (by congr 3;unfold sw;congr 1;first | exact (decide_eq_false (by omega)).symm | exact (decide_eq_true (by omega)).symm)
theorem qm {m:Nat} (a0_0 a0_1:Int) (a0_2:ByteArray) (a0_3:List D) (hT:Tm m (.agg [.int .i64 a0_0,.int .i64 a0_1,.str a0_2,.lst a0_3])):o.call 147 [.agg [.d (.int .i64 a0_0),.d (.int .i64 a0_1),.d (.str a0_2),.d (.lst a0_3)]] []=some ⟨.d (.bool (sw o (.agg [.int .i64 a0_0,.int .i64 a0_1,.str a0_2,.lst a0_3]))),[],[]⟩:=by
 refine ho.aI fun R Q=> ?_
 obtain ⟨n1,he1⟩:∃v,(if jt o 8 (.agg [.int .i64 a0_0,.int .i64 a0_1,.str a0_2,.lst a0_3])<=300 then 300-jt o 8 (.agg [.int .i64 a0_0,.int .i64 a0_1,.str a0_2,.lst a0_3])else-1)=v:=⟨_,rfl⟩
 have e1:o.call 245 [.agg [.d (.int .i64 a0_0),.d (.int .i64 a0_1),.d (.str a0_2),.d (.lst a0_3)],.d (.int .i64 8),.d (.int .i64 300)] []=some ⟨.d (.int .i64 n1),[],[]⟩:=(KU ho 8 (by omega) _ _ _ _ _ hT _ _ (by omega) (by omega) (by omega)).trans (by rw [he1]);conv=>lhs;cbv;rw [e1];cbv
 rcases iQ ho n1 0 with ⟨e2,g2⟩|⟨e2,g2⟩<;>(conv=>lhs;rw [e2];cbv)
 all_goals
  subst Q;have b:=oV o 8 (.agg [.int .i64 a0_0,.int .i64 a0_1,.str a0_2,.lst a0_3]);exact (Eq.refl _).trans (by congr 3;unfold sw;congr 1;split at he1<;>first | exact (decide_eq_false (by omega)).symm | exact (decide_eq_true (by omega)).symm)
def oW (a0:List D) (n1 i:Int):St:=⟨E 15 [(5,Al a0),(6,Ai n1),(7,Ai i)],O 15 []⟩
def mU:St:=⟨E 15 [],O 15 []⟩
def mV:St:=⟨E 15 [(2,Ab false)],O 15 []⟩
theorem Fh {m:Nat} (a0:List D) (hT:∀x∈a0,Tm m x) (n1:Int) (hn:(a0.length:Int)=n1) (hl:n1<=1048576):∀i:Int,0<=i->i<=(n1:Int)->o.loop 15800 (oW a0 n1 i)=some (if (a0.drop i.toNat).all (sw o)then (.exit 0,mU)else (.ret,mV)):=by
 refine cU (P:=fun i=>o.loop 15800 (oW a0 n1 i)=some (if (a0.drop i.toNat).all (sw o)then (.exit 0,mU)else (.ret,mV))) (n1:Int) ?_;intro i h0 h1 ih;try dsimp only at ih |-
 refine ho.gC fun R Q=> ?_
 conv=>lhs;cbv
 rcases bB ho i n1 with ⟨e1,g1⟩|⟨e1,g1⟩<;>(conv=>lhs;rw [e1];cbv)
 ·subst Q;rw [bR hn (by omega)];rfl
 ·obtain ⟨x,hx0,hx1,hx2⟩:=aD hn h0 g1;obtain ⟨m',n2,n3,s1,l1,rfl,rfl,hs,hl,ht⟩:=dc (hT _ hx2);have e2:=av ho h0 hx0;conv=>lhs;rw [e2];cbv
  cases he3:sw o (.agg [.int .i64 n2,.int .i64 n3,.str s1,.lst l1])<;>(conv=>lhs;rw [ql ho _ _ _ _ (hT _ hx2),he3];cbv)
  ·subst Q;rw [hx1,List.all_cons,he3];rfl
  ·obtain ⟨n4,e4,g4⟩:=bA ho i 1;conv=>lhs;rw [e4];cbv
   subst Q;rw [hx1,List.all_cons,he3,Bool.true_and];rw [show n4=i+1 by omega];exact ih (by omega)
theorem z7 {m:Nat} (a0:List D) (hT:∀x∈a0,Tm m x) (hl:(a0.length:Int)<=1048576):o.call 158 [Al a0] []=Ar (Ab (a0.all (sw o))):=by
 refine ho.aI fun R Q=> ?_
 obtain ⟨n1,e1,g1⟩:=aB ho a0;conv=>lhs;cbv;rw [e1];cbv
 have hl:=Fh ho a0 hT n1 g1.symm (by omega) 0 (Int.le_refl _) (by omega);rw [show (0:Int).toNat=0 from rfl,List.drop_zero]at hl;conv at hl=>lhs;cbv
 cases hc:a0.all (sw o)<;>(conv=>lhs;rw [hl,hc];cbv)
 all_goals
  subst Q;first | rfl | simp only [hc]
def iR (a1 a0:List D) (n1 i:Int):St:=⟨E 32 [(1,Al a1),(2,.fn 66 []),(15,Al a0),(16,Ai n1),(17,Ai i)],O 32 []⟩
def hU:St:=⟨E 32 [],O 32 []⟩
def h_:St:=⟨E 32 [(6,Ab false)],O 32 []⟩
def nJ (a0_0 a0_1:Int) (a0_2:ByteArray) (a0_3:List D) (a1_0 a1_1:Int) (a1_2:ByteArray) (a1_3:List D) (i:Int):St:=⟨E 53 [(2,.sp [.int .i64 a0_0,.int .i64 a0_1,.str a0_2,.lst a0_3] 0),(3,.sp [.int .i64 a1_0,.int .i64 a1_1,.str a1_2,.lst a1_3] 0),(5,Ai i)],O 53 []⟩
def lu:St:=⟨E 53 [],O 53 []⟩
def lz:St:=⟨E 53 [(4,Ab false)],O 53 []⟩
omit ho in
def ST (o:aK) (f:FuncId) (d:Nat):Prop:=∀k n s l k' n' s' l' m,Tm d (.agg [.int .i64 k,.int .i64 n,.str s,.lst l])->Tm m (.agg [.int .i64 k',.int .i64 n',.str s',.lst l'])->o.call f [.agg [.d (.int .i64 k),.d (.int .i64 n),.d (.str s),.d (.lst l)],.agg [.d (.int .i64 k'),.d (.int .i64 n'),.d (.str s'),.d (.lst l')]] []=some ⟨.d (.bool (bY (.agg [.int .i64 k,.int .i64 n,.str s,.lst l]) (.agg [.int .i64 k',.int .i64 n',.str s',.lst l']))),[],[]⟩
theorem IC (d:Nat) (IH:ST o 66 d) (a0 a1:List D) {m2:Nat} (hT:∀x∈a0,Tm d x) (hT2:∀x∈a1,Tm m2 x) (n1:Int) (hn:(a0.length:Int)=n1) (hn2:(a1.length:Int)=n1) (hl:n1<=1048576):∀i:Int,0<=i->i<=(n1:Int)->o.loop 15100 (iR a1 a0 n1 i)=some (if bY (.lst (a0.drop i.toNat)) (.lst (a1.drop i.toNat))then (.exit 0,hU)else (.ret,h_)):=by
 refine cU (P:=fun i=>o.loop 15100 (iR a1 a0 n1 i)=some (if bY (.lst (a0.drop i.toNat)) (.lst (a1.drop i.toNat))then (.exit 0,hU)else (.ret,h_))) (n1:Int) ?_;intro i h0 h1 ih;try dsimp only at ih |-
 refine ho.gC fun R Q=> ?_
 conv=>lhs;cbv
 rcases bB ho i n1 with ⟨e1,g1⟩|⟨e1,g1⟩<;>(conv=>lhs;rw [e1];cbv)
 ·subst Q;rw [bR hn (by omega),bR hn2 (by omega),mz rfl];rfl
 ·obtain ⟨x,hx0,hx1,hx2⟩:=aD hn h0 g1;obtain ⟨m',n2,n3,s1,l1,rfl,rfl,hs,hl,ht⟩:=dc (hT _ hx2);have e2:=av ho h0 hx0;obtain ⟨y,hy0,hy1,hy2⟩:=aD hn2 h0 g1;obtain ⟨m'',n4,n5,s2,l2,rfl,rfl,hs',hl',ht'⟩:=dc (hT2 _ hy2);have e3:=av ho h0 hy0;conv=>lhs;rw [e2];cbv;rw [e3];cbv
  cases he4:bY (.agg [.int .i64 n2,.int .i64 n3,.str s1,.lst l1]) (.agg [.int .i64 n4,.int .i64 n5,.str s2,.lst l2])<;>(conv=>lhs;rw [IH _ _ _ _ _ _ _ _ _ (hT _ hx2) (hT2 _ hy2),he4];cbv)
  ·subst Q;rw [dG (a:= .lst (a0.drop i.toNat)) (fun h=>kF he4 (by rw [hx1,hy1]at h;simp only [D.lst.injEq,List.cons.injEq]at h;rw [h.1]))];rfl
  ·obtain ⟨n6,e5,g5⟩:=bA ho i 1;conv=>lhs;rw [e5];cbv
   subst Q;have hq:bY (.lst (a0.drop i.toNat)) (.lst (a1.drop i.toNat))=bY (.lst (a0.drop (i+1).toNat)) (.lst (a1.drop (i+1).toNat)):=by
    have h1:=mA he4;cases h2:bY (.lst (a0.drop (i+1).toNat)) (.lst (a1.drop (i+1).toNat))
    ·exact dG fun h=>kF h2 (by rw [hx1,hy1]at h;simp only [D.lst.injEq,List.cons.injEq]at h;rw [h.2])
    ·refine mz ?_;have h3:=mA h2;simp only [D.lst.injEq]at h3;rw [hx1,hy1,h1,h3]
   rw [hq];rw [show n6=i+1 by omega];exact ih (by omega)
theorem IE (d:Nat) (IH:ST o 347 d) (a0_0 a0_1:Int) (a0_2:ByteArray) (a1_0 a1_1:Int) (a1_2:ByteArray) (a0_3 a1_3:List D) {m2:Nat} (hT:∀x∈a0_3,Tm d x) (hT2:∀x∈a1_3,Tm m2 x) (n1:Int) (hn:(a0_3.length:Int)=n1) (hn2:(a1_3.length:Int)=n1) (hl:n1<=1048576):∀i:Int,0<=i->i<=(n1:Int)->o.loop 34700 (nJ a0_0 a0_1 a0_2 a0_3 a1_0 a1_1 a1_2 a1_3 i)=some (if bY (.lst (a0_3.drop i.toNat)) (.lst (a1_3.drop i.toNat))then (.exit 0,lu)else (.ret,lz)):=by
 refine cU (P:=fun i=>o.loop 34700 (nJ a0_0 a0_1 a0_2 a0_3 a1_0 a1_1 a1_2 a1_3 i)=some (if bY (.lst (a0_3.drop i.toNat)) (.lst (a1_3.drop i.toNat))then (.exit 0,lu)else (.ret,lz))) (n1:Int) ?_;intro i h0 h1 ih;try dsimp only at ih |-
 refine ho.gC fun R Q=> ?_
 have e1:o.len a0_3=n1:=(lS ho _).trans hn;conv=>lhs;cbv;rw [e1];cbv
 rcases bB ho i n1 with ⟨e2,g2⟩|⟨e2,g2⟩<;>(conv=>lhs;rw [e2];cbv)
 ·subst Q;rw [bR hn (by omega),bR hn2 (by omega),mz rfl];rfl
 ·obtain ⟨x,hx0,hx1,hx2⟩:=aD hn h0 g2;obtain ⟨m',n2,n3,s1,l1,rfl,rfl,hs,hl,ht⟩:=dc (hT _ hx2);have e3:=av ho h0 hx0;obtain ⟨y,hy0,hy1,hy2⟩:=aD hn2 h0 g2;obtain ⟨m'',n4,n5,s2,l2,rfl,rfl,hs',hl',ht'⟩:=dc (hT2 _ hy2);have e4:=av ho h0 hy0;conv=>lhs;rw [e3];cbv;rw [e4];cbv
  cases he5:bY (.agg [.int .i64 n2,.int .i64 n3,.str s1,.lst l1]) (.agg [.int .i64 n4,.int .i64 n5,.str s2,.lst l2])<;>(conv=>lhs;rw [IH _ _ _ _ _ _ _ _ _ (hT _ hx2) (hT2 _ hy2),he5];cbv)
  ·subst Q;rw [dG (a:= .lst (a0_3.drop i.toNat)) (fun h=>kF he5 (by rw [hx1,hy1]at h;simp only [D.lst.injEq,List.cons.injEq]at h;rw [h.1]))];rfl
  ·obtain ⟨n6,e6,g6⟩:=bA ho i 1;conv=>lhs;rw [e6];cbv
   subst Q;have hq:bY (.lst (a0_3.drop i.toNat)) (.lst (a1_3.drop i.toNat))=bY (.lst (a0_3.drop (i+1).toNat)) (.lst (a1_3.drop (i+1).toNat)):=by
    have h1:=mA he5;cases h2:bY (.lst (a0_3.drop (i+1).toNat)) (.lst (a1_3.drop (i+1).toNat))
    ·exact dG fun h=>kF h2 (by rw [hx1,hy1]at h;simp only [D.lst.injEq,List.cons.injEq]at h;rw [h.2])
    ·refine mz ?_;have h3:=mA h2;simp only [D.lst.injEq]at h3;rw [hx1,hy1,h1,h3]
   rw [hq];rw [show n6=i+1 by omega];exact ih (by omega)
end
section
variable {o:aK} (ho:aU cF bE o)
include ho
theorem K9 (d:Nat) (IH:ST o 66 d) (a0 a1:List D) {m2:Nat} (hT:∀x∈a0,Tm d x) (hT2:∀x∈a1,Tm m2 x) (hl:(a0.length:Int)<=1048576):o.call 151 [Al a0,Al a1,.fn 66 []] []=Ar (Ab (bY (.lst a0) (.lst a1))):=by
 refine ho.aI fun R Q=> ?_
 obtain ⟨n1,e1,g1⟩:=aB ho a0;obtain ⟨n2,e2,g2⟩:=aB ho a1;conv=>lhs;cbv;rw [e1];cbv;rw [e2];cbv
 rcases cH ho n1 n2 with ⟨e3,g3⟩|⟨e3,g3⟩<;>(conv=>lhs;rw [e3];cbv)
 ·conv=>lhs;(try (rw [e1];cbv))
  have hl:=IC ho d IH a0 a1 hT hT2 n1 g1.symm (by omega) (by omega) 0 (Int.le_refl _) (by omega);rw [show (0:Int).toNat=0 from rfl,List.drop_zero,List.drop_zero]at hl;conv at hl=>lhs;cbv
  cases hc:bY (.lst a0) (.lst a1)<;>(conv=>lhs;rw [hl,hc];cbv)
  all_goals
   subst Q;first | rfl | simp only [hc]
 ·subst Q;rw [dG (fun h=>by simp only [D.lst.injEq]at h;subst h;omega)];try rfl
theorem MZ (d:Nat) (IH:ST o 66 d) {m:Nat} (a0_0 a0_1:Int) (a0_2:ByteArray) (a0_3:List D) (a1_0 a1_1:Int) (a1_2:ByteArray) (a1_3:List D) (hT:Tm (d+1) (.agg [.int .i64 a0_0,.int .i64 a0_1,.str a0_2,.lst a0_3])) (hT2:Tm m (.agg [.int .i64 a1_0,.int .i64 a1_1,.str a1_2,.lst a1_3])):o.call 66 [.agg [.d (.int .i64 a0_0),.d (.int .i64 a0_1),.d (.str a0_2),.d (.lst a0_3)],.agg [.d (.int .i64 a1_0),.d (.int .i64 a1_1),.d (.str a1_2),.d (.lst a1_3)]] []=some ⟨.d (.bool (bY (.agg [.int .i64 a0_0,.int .i64 a0_1,.str a0_2,.lst a0_3]) (.agg [.int .i64 a1_0,.int .i64 a1_1,.str a1_2,.lst a1_3]))),[],[]⟩:=by
 obtain ⟨d',hd,hs,hl,hT⟩:=jl hT;obtain rfl:d=d':=by omega
 obtain ⟨m,rfl,hs2,hl2,hT2⟩:=jl hT2;refine ho.aI fun R Q=> ?_
 conv=>lhs;cbv
 rcases ak ho a0_0 a1_0 with ⟨e1,g1⟩|⟨e1,g1⟩<;>(conv=>lhs;rw [e1];cbv)
 ·subst Q;rw [dG (fun h=>by simp only [D.agg.injEq,List.cons.injEq,D.int.injEq,D.str.injEq,D.lst.injEq,true_and,and_true]at h;first | exact g1 h.1 | exact g1 h.2.1 | exact g1 h.2.2.1)];try rfl
 ·rcases ak ho a0_1 a1_1 with ⟨e2,g2⟩|⟨e2,g2⟩<;>(conv=>lhs;rw [e2];cbv)
  ·subst Q;rw [dG (fun h=>by simp only [D.agg.injEq,List.cons.injEq,D.int.injEq,D.str.injEq,D.lst.injEq,true_and,and_true]at h;first | exact g2 h.1 | exact g2 h.2.1 | exact g2 h.2.2.1)];try rfl
  ·rcases aP ho a0_2 a1_2 with ⟨e3,g3⟩|⟨e3,g3⟩<;>(conv=>lhs;rw [e3];cbv)
   ·subst Q;rw [dG (fun h=>by simp only [D.agg.injEq,List.cons.injEq,D.int.injEq,D.str.injEq,D.lst.injEq,true_and,and_true]at h;first | exact g3 h.1 | exact g3 h.2.1 | exact g3 h.2.2.1)];try rfl
   ·obtain ⟨b4,he4⟩:∃b:Bool,bY (.lst a0_3) (.lst a1_3)=b:=⟨_,rfl⟩
    have e4:o.call 151 [.d (.lst a0_3),.d (.lst a1_3),.fn 66 []] []=some ⟨.d (.bool b4),[],[]⟩:=(K9 ho d IH _ _ hT hT2 hl).trans (by rw [he4]);conv=>lhs;rw [e4];cbv
    subst Q;congr 3;subst g1 g2 g3;rw [<-he4];cases hq:bY (.lst a0_3) (.lst a1_3)
    ·exact congrArg D.bool (dG fun h=>kF hq (by simp only [D.agg.injEq,List.cons.injEq,D.lst.injEq,true_and,and_true]at h |-;exact h)).symm
    ·exact congrArg D.bool (mz (by have:=mA hq;simp only [D.lst.injEq]at this;rw [this])).symm
theorem M4 (d:Nat) (IH:ST o 347 d) {m:Nat} (a0_0 a0_1:Int) (a0_2:ByteArray) (a0_3:List D) (a1_0 a1_1:Int) (a1_2:ByteArray) (a1_3:List D) (hT:Tm (d+1) (.agg [.int .i64 a0_0,.int .i64 a0_1,.str a0_2,.lst a0_3])) (hT2:Tm m (.agg [.int .i64 a1_0,.int .i64 a1_1,.str a1_2,.lst a1_3])):o.call 347 [At a0_0 a0_1 a0_2 a0_3,At a1_0 a1_1 a1_2 a1_3] []=Ar (Ab (bY (.agg [.int .i64 a0_0,.int .i64 a0_1,.str a0_2,.lst a0_3]) (.agg [.int .i64 a1_0,.int .i64 a1_1,.str a1_2,.lst a1_3]))):=by
 obtain ⟨d',hd,hs,hl,hT⟩:=jl hT;obtain rfl:d=d':=by omega
 obtain ⟨m,rfl,hs2,hl2,hT2⟩:=jl hT2;refine ho.aI fun R Q=> ?_
 conv=>lhs;cbv
 rcases cH ho a0_0 a1_0 with ⟨e1,g1⟩|⟨e1,g1⟩<;>(conv=>lhs;rw [e1];cbv)
 ·rcases cH ho a0_1 a1_1 with ⟨e2,g2⟩|⟨e2,g2⟩<;>(conv=>lhs;rw [e2];cbv)
  ·rcases pu ho a0_2 a1_2 with ⟨e3,g3⟩|⟨e3,g3⟩<;>(conv=>lhs;rw [e3];cbv)
   ·obtain ⟨n1,e4,g4⟩:=aB ho a0_3;obtain ⟨n2,e5,g5⟩:=aB ho a1_3;conv=>lhs;rw [e4];cbv;rw [e5];cbv
    rcases cH ho n1 n2 with ⟨e6,g6⟩|⟨e6,g6⟩<;>(conv=>lhs;rw [e6];cbv)
    ·have hl:=IE ho d IH a0_0 a0_1 a0_2 a1_0 a1_1 a1_2 a0_3 a1_3 hT hT2 n1 g4.symm (by omega) (by omega) 0 (Int.le_refl _) (by omega);rw [show (0:Int).toNat=0 from rfl,List.drop_zero,List.drop_zero]at hl;conv at hl=>lhs;cbv
     cases hc:bY (.lst a0_3) (.lst a1_3)<;>(conv=>lhs;rw [hl,hc];cbv)
     ·subst Q;rw [dG fun h=>kF hc (by simp only [D.agg.injEq,List.cons.injEq,D.int.injEq,D.str.injEq,D.lst.injEq,true_and,and_true]at h;rw [h.2.2.2])];try rfl
     ·subst Q;rw [mz (by have:=mA hc;simp only [D.lst.injEq]at this;rw [this,g1,g2,g3])];try rfl
    ·subst Q;rw [dG (fun h=>by simp only [D.agg.injEq,List.cons.injEq,D.int.injEq,D.str.injEq,D.lst.injEq,true_and,and_true]at h;have:=h.2.2.2;subst this;omega)];try rfl
   ·subst Q;rw [dG (fun h=>by simp only [D.agg.injEq,List.cons.injEq,D.int.injEq,D.str.injEq,D.lst.injEq,true_and,and_true]at h;first | exact g3 h.1 | exact g3 h.2.1 | exact g3 h.2.2.1)];try rfl
  ·subst Q;rw [dG (fun h=>by simp only [D.agg.injEq,List.cons.injEq,D.int.injEq,D.str.injEq,D.lst.injEq,true_and,and_true]at h;first | exact g2 h.1 | exact g2 h.2.1 | exact g2 h.2.2.1)];try rfl
 ·subst Q;rw [dG (fun h=>by simp only [D.agg.injEq,List.cons.injEq,D.int.injEq,D.str.injEq,D.lst.injEq,true_and,and_true]at h;first | exact g1 h.1 | exact g1 h.2.1 | exact g1 h.2.2.1)];try rfl
theorem BF:∀d,ST o 66 d
 | 0=>fun _ _ _ _ _ _ _ _ _ h=>h.elim
 | d+1=>fun k n s l k' n' s' l' m h h2=>MZ ho d (BF d) k n s l k' n' s' l' h h2
theorem yu:∀d,ST o 347 d
 | 0=>fun _ _ _ _ _ _ _ _ _ h=>h.elim
 | d+1=>fun k n s l k' n' s' l' m h h2=>M4 ho d (yu d) k n s l k' n' s' l' h h2
omit ho in
def lD:D:= .agg [.int .i64 0,.int .i64 0,.str ⟨#[]⟩,.lst []]
omit ho in
theorem NW:Tm 1 lD:=⟨0,0,⟨#[]⟩,[],rfl,by decide,by decide,fun x hx=>by cases hx⟩
theorem Fj {m:Nat} (a0_0 a0_1:Int) (a0_2:ByteArray) (a0_3:List D) (hT:Tm m (.agg [.int .i64 a0_0,.int .i64 a0_1,.str a0_2,.lst a0_3])):o.call 285 [At a0_0 a0_1 a0_2 a0_3] []=Ar (Ab (bY (.agg [.int .i64 a0_0,.int .i64 a0_1,.str a0_2,.lst a0_3]) lD)):=by
 refine ho.aI fun R Q=> ?_
 obtain ⟨b1,he1⟩:∃b:Bool,bY (.agg [.int .i64 a0_0,.int .i64 a0_1,.str a0_2,.lst a0_3]) (.agg [.int .i64 0,.int .i64 0,.str ⟨#[]⟩,.lst []])=b:=⟨_,rfl⟩
 have e1:o.call 66 [At a0_0 a0_1 a0_2 a0_3,At 0 0 ⟨#[]⟩ []] []=Ar (Ab b1):=(BF ho _ _ _ _ _ _ _ _ _ 1 hT NW).trans (by rw [he1]);conv=>lhs;cbv;rw [e1];cbv
 subst Q;exact (Eq.refl _).trans (by rw [<-he1];rfl)
theorem Fk (a0_0 a0_1:Int) (a0_2:ByteArray) (a0_3:List D):o.call 243 [.agg [.d (.int .i64 a0_0),.d (.int .i64 a0_1),.d (.str a0_2),.d (.lst a0_3)]] []=some ⟨.d (.bool (bY (.agg [.int .i64 a0_0,.int .i64 a0_1,.str a0_2,.lst a0_3]) lD)),[],[]⟩:=by
 refine ho.aI fun R Q=> ?_
 conv=>lhs;cbv
 rcases ak ho a0_0 0 with ⟨e1,g1⟩|⟨e1,g1⟩<;>(conv=>lhs;rw [e1];cbv)
 ·subst Q;rw [dG (fun h=>by simp only [lD,D.agg.injEq,List.cons.injEq,D.int.injEq,D.str.injEq,D.lst.injEq,true_and,and_true]at h;first | exact g1 h.1 | exact g1 h.2.1 | exact g1 h.2.2.1)];try rfl
 ·rcases ak ho a0_1 0 with ⟨e2,g2⟩|⟨e2,g2⟩<;>(conv=>lhs;rw [e2];cbv)
  ·subst Q;rw [dG (fun h=>by simp only [lD,D.agg.injEq,List.cons.injEq,D.int.injEq,D.str.injEq,D.lst.injEq,true_and,and_true]at h;first | exact g2 h.1 | exact g2 h.2.1 | exact g2 h.2.2.1)];try rfl
  ·rcases aP ho a0_2 ⟨#[]⟩with ⟨e3,g3⟩|⟨e3,g3⟩<;>(conv=>lhs;rw [e3];cbv)
   ·subst Q;rw [dG (fun h=>by simp only [lD,D.agg.injEq,List.cons.injEq,D.int.injEq,D.str.injEq,D.lst.injEq,true_and,and_true]at h;first | exact g3 h.1 | exact g3 h.2.1 | exact g3 h.2.2.1)];try rfl
   ·obtain ⟨n1,e4,g4⟩:=aB ho a0_3;obtain ⟨b4,e5⟩:=kx (o.cmp .eql n1 0);conv=>lhs;rw [e4];cbv;rw [e5];cbv
    subst Q;congr 3;subst g1 g2 g3;rw [<-e5];cases hq:o.cmp .eql n1 0
    ·have:=kB ho hq;exact congrArg D.bool (dG fun h=>by simp only [lD,D.agg.injEq,List.cons.injEq,D.lst.injEq,true_and,and_true]at h;subst h;exact this g4).symm
    ·have:=LQ ho hq;exact congrArg D.bool (mz (by rw [List.length_eq_zero_iff.1 (by omega:a0_3.length=0)];rfl)).symm
end
def Ot (o:aK):Nat->D->Prop
 | 0,_=>False
 | n+1,d=>∃k m s l,d= .agg [.int .i64 k,.int .i64 m,.str s,.own (31,4) l]/\iP o k m s (aV l)=true/\∀x∈l,Ot o n x
theorem eG {o:aK} {n:Nat} {d:D} (h:Rt o n d):d.cells.length=4:=by obtain ⟨m,k,c,s,l,_,rfl,_⟩:=fL h;rfl
theorem Fs {n:Nat} {d:D} (h:Tm n d):d.cells.length=4:=by obtain ⟨m,k,c,s,l,_,rfl,_⟩:=dc h;rfl
def NH (o:aK) (d:Nat):Prop:=∀k n s l,Rt o d (.agg [.int .i64 k,.int .i64 n,.str s,.lst l])->∃ys,o.call 105 [.agg [.d (.int .i64 k),.d (.int .i64 n),.d (.str s),.d (.lst l)]] []=some ⟨.agg [.d (.int .i64 k),.d (.int .i64 n),.d (.str s),.arr (0,0) (31,4) none false],[],[some (.orows (31,4) ys)]⟩/\aV ys=l/\Ot o d (.agg [.int .i64 k,.int .i64 n,.str s,.own (31,4) ys])
def NZ (o:aK) (d:Nat):Prop:=∀k n s l,Tm d (.agg [.int .i64 k,.int .i64 n,.str s,.lst l])->o.call 202 [.agg [.d (.int .i64 k),.d (.int .i64 n),.d (.str s),.d (.lst l)]] []=some ⟨.agg [.d (.int .i64 k),.d (.int .i64 n),.d (.str s),.d (.lst l)],[],[]⟩
theorem Ft {xs:List D} {i:Int} {x:D} (h0:0<=i) (hx:xs[i.toNat]? =some x):xs.take (i+1).toNat=xs.take i.toNat++[x]:=by
 rw [show (i+1).toNat=i.toNat+1 by omega,List.take_add_one,hx];rfl
section
variable {o:aK} (ho:aU cF bE o)
include ho
def dO (a0:List D) (n1 i:Int) (y:List D):St:=⟨E 19 [(3,.arr (16,0) (31,4) none false),(6,Al a0),(7,Ai n1),(8,Ai i)],O 19 [(16,[Oq y])]⟩
def iD (y:List D):St:=⟨E 19 [(3,.arr (16,0) (31,4) none false)],O 19 [(16,[Oq y])]⟩
def mB (a0_0 a0_1:Int) (a0_2:ByteArray) (a0_3:List D) (i:Int) (y:List D):St:=⟨E 27 [(1,.sp [.int .i64 a0_0,.int .i64 a0_1,.str a0_2,.lst a0_3] 0),(2,.ptr (2,0) 0),(3,.ptr (3,0) 0),(4,Ai i)],O 27 [(2,[some (.box [Ai 0,Ai 0,As ⟨#[]⟩,.emp])]),(3,[some (.box [Ai a0_0,Ai a0_1,As a0_2,.arr (24,0) (31,4) none false])]),(24,[Os y])]⟩
def iE (a0_0 a0_1:Int) (a0_2:ByteArray) (y:List D):St:=⟨E 27 [(2,.ptr (2,0) 0),(3,.ptr (3,0) 0)],O 27 [(2,[some (.box [Ai 0,Ai 0,As ⟨#[]⟩,.emp])]),(3,[some (.box [Ai a0_0,Ai a0_1,As a0_2,.arr (24,0) (31,4) none false])]),(24,[Os y])]⟩
theorem M8 (d:Nat) (IH:NH o d) (a0:List D) (hT:∀x∈a0,Rt o d x) (n1:Int) (hn:(a0.length:Int)=n1) (hl:n1<=1048576):∀i:Int,0<=i->i<=(n1:Int)->∀y:List D,(y.length:Int)=i->(∀z∈y,z.cells.length=4)->∃ws,o.loop 19300 (dO a0 n1 i y)=some (.exit 0,iD (y++ws))/\aV ws=a0.drop i.toNat/\∀w∈ws,Ot o d w:=by
 refine cU (P:=fun i=>∀y:List D,(y.length:Int)=i->(∀z∈y,z.cells.length=4)->∃ws,o.loop 19300 (dO a0 n1 i y)=some (.exit 0,iD (y++ws))/\aV ws=a0.drop i.toNat/\∀w∈ws,Ot o d w) (n1:Int) ?_;intro i h0 h1 ih;try dsimp only at ih |-
 intro y hy hc;rcases bB ho i n1 with ⟨e1,g1⟩|⟨e1,g1⟩
 ·exact ⟨[],by rw [List.append_nil];exact (ho.ay (by cbv;repeat (simp only [e1];try cbv)):o.loop 19300 (dO a0 n1 i y)=some (.exit 0,iD y)),by rw [bR hn (by omega)];rfl,fun w hw=>by cases hw⟩
 ·obtain ⟨x,hx0,hx1,hx2⟩:=aD hn h0 g1;obtain ⟨m',n2,n3,s1,l1,hd',rfl,hs,ht⟩:=fL (hT _ hx2);have e2:=av ho h0 hx0;obtain ⟨l2,e3,hf,hO⟩:=IH _ _ _ _ (hT _ hx2);obtain ⟨l3,he4⟩:∃l3,l3=y++[.agg [.int .i64 n2,.int .i64 n3,.str s1,.own (31,4) l2]]:=⟨_,rfl⟩
  have e4:o.app y [.agg [.int .i64 n2,.int .i64 n3,.str s1,.own (31,4) l2]]=l3:=(ho.app _ _).trans he4.symm;have hc3:∀z∈l3,z.cells.length=4:=by
   intro z hz;rw [he4]at hz;rcases List.mem_append.1 hz with h | h
   ·exact hc z h
   ·rw [List.mem_singleton]at h;subst h;rfl
  have hl3:(l3.length:Int)=i+1:=by rw [he4];simp;omega
  have e5:o.fits 4 56 l3=true:=by exact cX ho (by omega) (by decide) hc3
  obtain ⟨n4,e6⟩:=kx (o.ar .add .i64 i 1);try have g6:n4=i+1:=e6.symm.trans (cM ho (by omega) (by omega))
  obtain ⟨ws,w1,w2,w3⟩:=ih (by omega) l3 hl3 hc3;refine ⟨.agg [.int .i64 n2,.int .i64 n3,.str s1,.own (31,4) l2]::ws,(fun z (hz:o.loop 19300 (dO a0 n1 n4 l3)=some z)=>ho.ay (by rw [<-hz];cbv;repeat (simp only [e1,e2,e3,e4,e5,e6];try cbv)):∀z,o.loop 19300 (dO a0 n1 n4 l3)=some z->o.loop 19300 (dO a0 n1 i y)=some z) _ ?_,?_,?_⟩
  ·rw [show n4=i+1 by omega,w1,he4,List.append_assoc];rfl
  ·rw [hx1,<-w2];simp only [aV,bD];rw [hf]
  ·intro w hw;rcases List.mem_cons.1 hw with h | h
   ·subst h;exact hO
   ·exact w3 w h
theorem uX (d:Nat) (IH:NH o d) (a0:List D) (hT:∀x∈a0,Rt o d x) (hl:(a0.length:Int)<=1048576):∃ys,o.call 193 [Al a0] []=some ⟨.arr (0,0) (31,4) none false,[],[Oq ys]⟩/\aV ys=a0/\∀w∈ys,Ot o d w:=by
 obtain ⟨n1,e1,g1⟩:=aB ho a0;obtain ⟨l1,e2,h1,h2⟩:=M8 ho d IH a0 hT n1 g1.symm (by omega) 0 (Int.le_refl _) (by omega) [] rfl (fun z hz=>by cases hz);exact ⟨_,(ho.aq (by cbv at e2;cbv;repeat (simp only [e1,e2];try cbv)):o.call 193 [Al a0] []=some ⟨.arr (0,0) (31,4) none false,[],[Oq l1]⟩),h1,h2⟩
theorem DN (d:Nat) (IH:NH o d) (a0_0 a0_1:Int) (a0_2:ByteArray) (a0_3:List D) (hT:Rt o (d+1) (.agg [.int .i64 a0_0,.int .i64 a0_1,.str a0_2,.lst a0_3])):∃ys,o.call 105 [At a0_0 a0_1 a0_2 a0_3] []=some ⟨.agg [Ai a0_0,Ai a0_1,As a0_2,.arr (0,0) (31,4) none false],[],[Oq ys]⟩/\aV ys=a0_3/\Ot o (d+1) (.agg [.int .i64 a0_0,.int .i64 a0_1,.str a0_2,.own (31,4) ys]):=by
 obtain ⟨d',hd,hs,hT⟩:=qk hT;obtain rfl:d=d':=by omega
 have l1:=ga hs;obtain ⟨l1,e1,h1,h2⟩:=uX ho d IH a0_3 hT (by omega);exact ⟨_,(ho.aq (by cbv;repeat (simp only [e1];try cbv)):o.call 105 [At a0_0 a0_1 a0_2 a0_3] []=some ⟨.agg [Ai a0_0,Ai a0_1,As a0_2,.arr (0,0) (31,4) none false],[],[Oq l1]⟩),h1,_,_,_,_,rfl,by rw [h1];exact hs,h2⟩
theorem II (d:Nat) (IH:NZ o d) (a0_0 a0_1:Int) (a0_2:ByteArray) (a0_3:List D) (hT:∀x∈a0_3,Tm d x) (n1:Int) (hn:(a0_3.length:Int)=n1) (hl:n1<=1048576):∀i:Int,0<=i->i<=(n1:Int)->∀y:List D,y=a0_3.take i.toNat->o.loop 20200 (mB a0_0 a0_1 a0_2 a0_3 i y)=some (.exit 0,iE a0_0 a0_1 a0_2 a0_3):=by
 refine cU (P:=fun i=>∀y:List D,y=a0_3.take i.toNat->o.loop 20200 (mB a0_0 a0_1 a0_2 a0_3 i y)=some (.exit 0,iE a0_0 a0_1 a0_2 a0_3)) (n1:Int) ?_;intro i h0 h1 ih;try dsimp only at ih |-
 intro y hy;refine ho.gC fun R Q=> ?_
 have e1:o.len a0_3=n1:=(lS ho _).trans hn;conv=>lhs;cbv;rw [e1];cbv
 rcases bB ho i n1 with ⟨e2,g2⟩|⟨e2,g2⟩<;>(conv=>lhs;rw [e2];cbv)
 ·subst Q;show some (Out.exit 0,iE a0_0 a0_1 a0_2 y)=_;rw [hy,List.take_of_length_le (by omega)]
 ·obtain ⟨x,hx0,hx1,hx2⟩:=aD hn h0 g2;obtain ⟨m',n2,n3,s1,l1,hd',rfl,hs,hl,ht⟩:=dc (hT _ hx2);have e3:=av ho h0 hx0;have e4:o.call 202 [At n2 n3 s1 l1] []=Ar (At n2 n3 s1 l1):=IH _ _ _ _ (hT _ hx2);obtain ⟨l2,he4⟩:∃l2,l2=a0_3.take (i+1).toNat:=⟨_,rfl⟩
  have e5:o.app y [.agg [.int .i64 n2,.int .i64 n3,.str s1,.lst l1]]=l2:=(ho.app _ _).trans (by rw [hy];exact (Ft h0 hx0).symm.trans he4.symm);have e6:o.fits 4 56 l2=true:=by exact cX ho (by rw [he4,List.length_take];omega) (by decide) (fun z hz=>Fs (hT z (by rw [he4]at hz;exact List.mem_of_mem_take hz)))
  obtain ⟨n4,e7,g7⟩:=bA ho i 1;conv=>lhs;rw [e3];cbv;rw [e4];cbv;rw [e5];cbv;rw [e6];cbv;rw [e7];cbv
  subst Q;rw [show n4=i+1 by omega];exact ih (by omega) l2 he4
theorem IJ (d:Nat) (IH:NZ o d) (a0_0 a0_1:Int) (a0_2:ByteArray) (a0_3:List D) (hT:Tm (d+1) (.agg [.int .i64 a0_0,.int .i64 a0_1,.str a0_2,.lst a0_3])):o.call 202 [At a0_0 a0_1 a0_2 a0_3] []=Ar (At a0_0 a0_1 a0_2 a0_3):=by
 obtain ⟨d',hd,hs,hl,hT⟩:=jl hT;obtain rfl:d=d':=by omega
 refine ho.aI fun R Q=> ?_
 conv=>lhs;cbv
 obtain ⟨l1,hl1,e1⟩:∃l1,a0_3=l1/\o.loop 20200 (mB a0_0 a0_1 a0_2 a0_3 0 [])=some (.exit 0,iE a0_0 a0_1 a0_2 l1):=⟨_,rfl,II ho d IH a0_0 a0_1 a0_2 a0_3 hT _ rfl hl 0 (Int.le_refl _) (by omega) [] rfl⟩
 conv at e1=>lhs;cbv
 conv=>lhs;rw [e1];cbv
 subst Q;rw [hl1]
theorem rC:∀d,NH o d
 | 0=>fun _ _ _ _ h=>h.elim
 | d+1=>fun k n s l h=>DN ho d (rC d) k n s l h
theorem tO:∀d,NZ o d
 | 0=>fun _ _ _ _ h=>h.elim
 | d+1=>fun k n s l h=>IJ ho d (tO d) k n s l h
end
end T2
