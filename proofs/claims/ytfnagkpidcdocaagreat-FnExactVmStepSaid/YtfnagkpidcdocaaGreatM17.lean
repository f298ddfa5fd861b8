import Derived.Test.YtfnagkpidcdocaaGreatM14
import Derived.Test.YtfnagkpidcdocaaGreatM16
set_option linter.all false
namespace T2
open Go Go.Vi
set_option maxRecDepth 100000
set_option maxHeartbeats 4000000
def sm (c:Int):Bool:=iK c 97 122
def fg (c:Int):Bool:=iK c 48 57
section
variable {o:aJ} (ho:aR cF bB o)
include ho
theorem av (a0 a1 a2:Int):o.call 89 [Ai a0,Ai a1,Ai a2] []=Ar (Ab (iK a0 a1 a2)):=by
 refine ho.aC λR Q=> ?_
 conv=>lhs;cbv
 rcases je ho a0 a1 with ⟨e1,g1⟩|⟨e1,g1⟩<;>(conv=>lhs;rw[e1];cbv)
 ·subst Q;exact (Eq.refl _).trans (by first | rw[jd (by omega)] | rw[dr (by omega)])
 ·rcases jT ho a0 a2 with ⟨e2,g2⟩|⟨e2,g2⟩<;>(conv=>lhs;rw[e2];cbv)
  all_goals
   subst Q;exact (Eq.refl _).trans (by first | rw[jd (by omega)] | rw[dr (by omega)])
theorem aF (a0 a1 a2:Int):o.call 83 [Ai a0,Ai a1,Ai a2] []=Ar (Ab (iK a0 a1 a2)):=by
 refine ho.aC λR Q=> ?_
 conv=>lhs;cbv
 rcases je ho a0 a1 with ⟨e1,g1⟩|⟨e1,g1⟩<;>(conv=>lhs;rw[e1];cbv)
 ·subst Q;exact (Eq.refl _).trans (by first | rw[jd (by omega)] | rw[dr (by omega)])
 ·rcases jT ho a0 a2 with ⟨e2,g2⟩|⟨e2,g2⟩<;>(conv=>lhs;rw[e2];cbv)
  all_goals
   subst Q;exact (Eq.refl _).trans (by first | rw[jd (by omega)] | rw[dr (by omega)])
theorem Cq (a0:Int):o.call 270 [.d (.int .u8 a0)] []=Ar (Ab (sm a0)):=by
 refine ho.aC λR Q=> ?_
 conv=>lhs;cbv
 rcases je ho a0 97 with ⟨e1,g1⟩|⟨e1,g1⟩<;>(conv=>lhs;rw[e1];cbv)
 ·subst Q;exact (Eq.refl _).trans (by first | rw[sm,jd (by omega)] | rw[sm,dr (by omega)] | rw[fg,jd (by omega)] | rw[fg,dr (by omega)])
 ·rcases jT ho a0 122 with ⟨e2,g2⟩|⟨e2,g2⟩<;>(conv=>lhs;rw[e2];cbv)
  all_goals
   subst Q;exact (Eq.refl _).trans (by first | rw[sm,jd (by omega)] | rw[sm,dr (by omega)] | rw[fg,jd (by omega)] | rw[fg,dr (by omega)])
theorem zS (a0:Int):o.call 271 [.d (.int .u8 a0)] []=Ar (Ab (fg a0)):=by
 refine ho.aC λR Q=> ?_
 conv=>lhs;cbv
 rcases je ho a0 48 with ⟨e1,g1⟩|⟨e1,g1⟩<;>(conv=>lhs;rw[e1];cbv)
 ·subst Q;exact (Eq.refl _).trans (by first | rw[sm,jd (by omega)] | rw[sm,dr (by omega)] | rw[fg,jd (by omega)] | rw[fg,dr (by omega)])
 ·rcases jT ho a0 57 with ⟨e2,g2⟩|⟨e2,g2⟩<;>(conv=>lhs;rw[e2];cbv)
  all_goals
   subst Q;exact (Eq.refl _).trans (by first | rw[sm,jd (by omega)] | rw[sm,dr (by omega)] | rw[fg,jd (by omega)] | rw[fg,dr (by omega)])
omit ho in
def zU (o:aJ) (s:ByteArray) (i:Int):Bool:=match o.yU s i with | some c=>sm c || (i !=0&&(fg c || c==95)) | none=>false
omit ho in
def Bl (o:aJ) (s:ByteArray):Bool:=fe (zU o s) 0 s.size&&iK s.size 1 20
def qP (a0:ByteArray) (i:Int):St:=⟨E 35 [(0,As a0),(3,Ai i)],O 35 []⟩
def oe (a0:ByteArray):St:=⟨E 35 [(0,As a0)],O 35 []⟩
def og (a0:ByteArray):St:=⟨E 35 [(0,As a0),(2,Ab false)],O 35 []⟩
def qQ (a0:ByteArray) (i:Int):St:=⟨E 36 [(0,As a0),(3,Ai i)],O 36 []⟩
def oh (a0:ByteArray):St:=⟨E 36 [(0,As a0)],O 36 []⟩
def ol (a0:ByteArray):St:=⟨E 36 [(0,As a0),(2,Ab false)],O 36 []⟩
theorem Bm (a0:ByteArray) (ha:(a0.size:Int)<=9000000000000000000):∀i:Int,0<=i->i<=(a0.size:Int)->o.loop 17300 (qP a0 i)=some (if fe (zU o a0) i a0.size then (.exit 0,oe a0)else (.ret,og a0)):=by
 refine bV (P:=λi=>o.loop 17300 (qP a0 i)=some (if fe (zU o a0) i a0.size then (.exit 0,oe a0)else (.ret,og a0))) (a0.size:Int) ?_;intro i h0 h1 ih;try dsimp only at ih |-
 refine ho.dO λR Q=> ?_
 obtain ⟨n1,e1,g1⟩:=ye ho a0;conv=>lhs;cbv;rw[e1];cbv
 rcases aZ ho i n1 with ⟨e2,g2⟩|⟨e2,g2⟩<;>(conv=>lhs;rw[e2];cbv)
 ·subst Q;rw[iM (by omega)];rfl
 ·obtain ⟨n2,e3⟩:∃(n2:Int),o.yU a0 i=some n2:=⟨_,by first | assumption | exact GN ho (by omega) (by omega)⟩
  conv=>lhs;rw[e3];cbv
  cases e4:sm n2
  ·conv=>lhs;rw[Cq ho,e4];cbv
   rcases aj ho i 0 with ⟨e6,g6⟩|⟨e6,g6⟩<;>(conv=>lhs;rw[e6];cbv)
   ·conv=>lhs;(try (rw[e3];cbv))
    cases e7:fg n2
    ·conv=>lhs;rw[zS ho,e7];cbv;(try (rw[e3];cbv))
     rcases cE ho n2 95 with ⟨e9,g9⟩|⟨e9,g9⟩<;>(conv=>lhs;rw[e9];cbv)
     ·obtain ⟨n3,e10,g10⟩:=aW ho i 1;conv=>lhs;rw[e10];cbv
      subst Q;rw[lW (by omega) (by unfold zU;rw[e3];simp[*])];rw[show n3=i+1 by omega];exact ih (by omega)
     ·subst Q;rw[mT (by omega) (by unfold zU;rw[e3];simp[*])];rfl
    ·obtain ⟨n3,e9,g9⟩:=aW ho i 1;conv=>lhs;rw[zS ho,e7];cbv;rw[e9];cbv
     subst Q;rw[lW (by omega) (by unfold zU;rw[e3];simp[*])];rw[show n3=i+1 by omega];exact ih (by omega)
   ·subst Q;rw[mT (by omega) (by unfold zU;rw[e3];simp[*])];rfl
  ·obtain ⟨n3,e6,g6⟩:=aW ho i 1;conv=>lhs;rw[Cq ho,e4];cbv;rw[e6];cbv
   subst Q;rw[lW (by omega) (by unfold zU;rw[e3];simp[*])];rw[show n3=i+1 by omega];exact ih (by omega)
theorem yh (a0:ByteArray) (ha:(a0.size:Int)<=9000000000000000000):o.call 173 [As a0] []=Ar (Ab (Bl o a0)):=by
 have hl:=Bm ho a0 ha 0 (Int.le_refl _) (by omega);refine ho.aC λR Q=> ?_
 conv=>lhs;cbv
 conv at hl=>lhs;cbv
 cases hc:fe (zU o a0) 0 a0.size<;>(conv=>lhs;rw[hl,hc];cbv)
 ·subst Q;try rw[hc]
  exact (Eq.refl _).trans (by simp_all [Bl])
 ·obtain ⟨n1,e2,g2⟩:=ye ho a0;obtain ⟨b1,e3⟩:=kx (iK n1 1 20);conv=>lhs;rw[e2];cbv;rw[av ho,e3];cbv
  subst Q;try rw[hc]
  exact (Eq.refl _).trans (by simp_all [Bl])
theorem Bn (a0:ByteArray) (ha:(a0.size:Int)<=9000000000000000000):∀i:Int,0<=i->i<=(a0.size:Int)->o.loop 20400 (qQ a0 i)=some (if fe (zU o a0) i a0.size then (.exit 0,oh a0)else (.ret,ol a0)):=by
 refine bV (P:=λi=>o.loop 20400 (qQ a0 i)=some (if fe (zU o a0) i a0.size then (.exit 0,oh a0)else (.ret,ol a0))) (a0.size:Int) ?_;intro i h0 h1 ih;try dsimp only at ih |-
 refine ho.dO λR Q=> ?_
 obtain ⟨n1,e1,g1⟩:=ye ho a0;conv=>lhs;cbv;rw[e1];cbv
 rcases aZ ho i n1 with ⟨e2,g2⟩|⟨e2,g2⟩<;>(conv=>lhs;rw[e2];cbv)
 ·subst Q;rw[iM (by omega)];rfl
 ·obtain ⟨n2,e3⟩:∃(n2:Int),o.yU a0 i=some n2:=⟨_,by first | assumption | exact GN ho (by omega) (by omega)⟩
  obtain ⟨n3,e4⟩:∃n3,o.wrap .i64 n2=n3:=⟨_,rfl⟩
  obtain rfl:n3=n2:=e4.symm.trans (Jm ho (Mr ho e3));conv=>lhs;rw[e3];cbv;rw[e4];cbv
  rcases aN n3 97 122 with ⟨e5,g5⟩|⟨e5,g5⟩
  ·conv=>lhs;rw[aF ho,e5];cbv
   rcases aj ho i 0 with ⟨e7,g7⟩|⟨e7,g7⟩<;>(conv=>lhs;rw[e7];cbv)
   ·rcases aN n3 48 57 with ⟨e8,g8⟩|⟨e8,g8⟩
    ·conv=>lhs;rw[aF ho,e8];cbv
     rcases cE ho n3 95 with ⟨e10,g10⟩|⟨e10,g10⟩<;>(conv=>lhs;rw[e10];cbv)
     ·obtain ⟨n4,e11,g11⟩:=aW ho i 1;conv=>lhs;rw[e11];cbv
      subst Q;rw[lW (by omega) (by unfold zU;rw[e3];simp[sm,fg, *])];rw[show n4=i+1 by omega];exact ih (by omega)
     ·subst Q;rw[mT (by omega) (by unfold zU;rw[e3];simp[sm,fg, *])];rfl
    ·obtain ⟨n4,e10,g10⟩:=aW ho i 1;conv=>lhs;rw[aF ho,e8];cbv;rw[e10];cbv
     subst Q;rw[lW (by omega) (by unfold zU;rw[e3];simp[sm,fg, *])];rw[show n4=i+1 by omega];exact ih (by omega)
   ·subst Q;rw[mT (by omega) (by unfold zU;rw[e3];simp[sm,fg, *])];rfl
  ·obtain ⟨n4,e7,g7⟩:=aW ho i 1;conv=>lhs;rw[aF ho,e5];cbv;rw[e7];cbv
   subst Q;rw[lW (by omega) (by unfold zU;rw[e3];simp[sm,fg, *])];rw[show n4=i+1 by omega];exact ih (by omega)
theorem yj (a0:ByteArray) (ha:(a0.size:Int)<=9000000000000000000):o.call 204 [As a0] []=Ar (Ab (Bl o a0)):=by
 have hl:=Bn ho a0 ha 0 (Int.le_refl _) (by omega);refine ho.aC λR Q=> ?_
 conv=>lhs;cbv
 conv at hl=>lhs;cbv
 cases hc:fe (zU o a0) 0 a0.size<;>(conv=>lhs;rw[hl,hc];cbv)
 ·subst Q;try rw[hc]
  exact (Eq.refl _).trans (by simp_all [Bl])
 ·obtain ⟨n1,e2,g2⟩:=ye ho a0;obtain ⟨b1,e3⟩:=kx (iK n1 1 20);conv=>lhs;rw[e2];cbv;rw[aF ho,e3];cbv
  subst Q;try rw[hc]
  exact (Eq.refl _).trans (by simp_all [Bl])
end
def jf (o:aJ) (k n:Int) (s:ByteArray) (l:List D):Bool:=
 if k=1 then iK n (-1000000000000) 1000000000000&&decide (s=⟨#[]⟩)&&decide ((l.length:Int)=0)
 else if k=2 then Bl o s&&decide (n=0)&&decide ((l.length:Int)=0)
 else if k=3 then iK n 0 1000000&&decide (s=⟨#[]⟩)&&decide ((l.length:Int)=0)
 else if k=4 then decide (n=0)&&decide (s=⟨#[]⟩)&&decide ((l.length:Int)<=20)
 else if k=5 then decide (n=0)&&decide (s=⟨#[]⟩)&&decide ((l.length:Int)<=60)
 else false
def Tm:Nat->D->Prop
 | 0,_=>False
 | n+1,d=>∃k m s l,d= .agg [.int .i64 k,.int .i64 m,.str s,.lst l]/\(s.size:Int)<=1048576/\(l.length:Int)<=1048576/\∀x∈l,Tm n x
section
variable {o:aJ} (ho:aR cF bB o)
include ho
theorem Ki (a0_0 a0_1:Int) (a0_2:ByteArray) (a0_3:List D) (ha:(a0_2.size:Int)<=9000000000000000000):o.call 249 [At a0_0 a0_1 a0_2 a0_3] []=Ar (Ab (jf o a0_0 a0_1 a0_2 a0_3)):=by
 refine ho.aC λR Q=> ?_
 conv=>lhs;cbv
 rcases aj ho a0_0 1 with ⟨e1,g1⟩|⟨e1,g1⟩<;>(conv=>lhs;rw[e1];cbv)
 ·rcases aj ho a0_0 2 with ⟨e2,g2⟩|⟨e2,g2⟩<;>(conv=>lhs;rw[e2];cbv)
  ·rcases aj ho a0_0 3 with ⟨e3,g3⟩|⟨e3,g3⟩<;>(conv=>lhs;rw[e3];cbv)
   ·rcases aj ho a0_0 4 with ⟨e4,g4⟩|⟨e4,g4⟩<;>(conv=>lhs;rw[e4];cbv)
    ·rcases aj ho a0_0 5 with ⟨e5,g5⟩|⟨e5,g5⟩<;>(conv=>lhs;rw[e5];cbv)
     ·subst Q;exact (Eq.refl _).trans (by subst_vars;simp_all [jf])
     ·rcases aj ho a0_1 0 with ⟨e6,g6⟩|⟨e6,g6⟩<;>(conv=>lhs;rw[e6];cbv)
      ·subst Q;exact (Eq.refl _).trans (by subst_vars;simp_all [jf])
      ·rcases aP ho a0_2 ⟨#[]⟩with ⟨e7,g7⟩|⟨e7,g7⟩<;>(conv=>lhs;rw[e7];cbv)
       ·subst Q;exact (Eq.refl _).trans (by subst_vars;simp_all [jf])
       ·obtain ⟨n1,e8,g8⟩:=ay ho a0_3;conv=>lhs;rw[e8];cbv
        rcases jT ho n1 60 with ⟨e9,g9⟩|⟨e9,g9⟩<;>(conv=>lhs;rw[e9];cbv)
        all_goals
         subst Q;exact (Eq.refl _).trans (by subst_vars;simp_all [jf])
    ·rcases aj ho a0_1 0 with ⟨e5,g5⟩|⟨e5,g5⟩<;>(conv=>lhs;rw[e5];cbv)
     ·subst Q;exact (Eq.refl _).trans (by subst_vars;simp_all [jf])
     ·rcases aP ho a0_2 ⟨#[]⟩with ⟨e6,g6⟩|⟨e6,g6⟩<;>(conv=>lhs;rw[e6];cbv)
      ·subst Q;exact (Eq.refl _).trans (by subst_vars;simp_all [jf])
      ·obtain ⟨n1,e7,g7⟩:=ay ho a0_3;conv=>lhs;rw[e7];cbv
       rcases jT ho n1 20 with ⟨e8,g8⟩|⟨e8,g8⟩<;>(conv=>lhs;rw[e8];cbv)
       all_goals
        subst Q;exact (Eq.refl _).trans (by subst_vars;simp_all [jf])
   ·rcases aN a0_1 0 1000000 with ⟨e4,g4⟩|⟨e4,g4⟩
    ·conv=>lhs;rw[av ho,e4];cbv
     subst Q;exact (Eq.refl _).trans (by subst_vars;simp_all [jf])
    ·conv=>lhs;rw[av ho,e4];cbv
     rcases aP ho a0_2 ⟨#[]⟩with ⟨e6,g6⟩|⟨e6,g6⟩<;>(conv=>lhs;rw[e6];cbv)
     ·subst Q;exact (Eq.refl _).trans (by subst_vars;simp_all [jf])
     ·obtain ⟨n1,e7,g7⟩:=ay ho a0_3;conv=>lhs;rw[e7];cbv
      rcases aj ho n1 0 with ⟨e8,g8⟩|⟨e8,g8⟩<;>(conv=>lhs;rw[e8];cbv)
      all_goals
       subst Q;exact (Eq.refl _).trans (by subst_vars;simp_all [jf])
  ·rcases aj ho a0_1 0 with ⟨e3,g3⟩|⟨e3,g3⟩<;>(conv=>lhs;rw[e3];cbv)
   ·subst Q;exact (Eq.refl _).trans (by subst_vars;simp_all [jf])
   ·cases e4:Bl o a0_2
    ·conv=>lhs;rw[yh ho a0_2 (by omega),e4];cbv
     subst Q;exact (Eq.refl _).trans (by subst_vars;simp_all [jf])
    ·obtain ⟨n1,e6,g6⟩:=ay ho a0_3;conv=>lhs;rw[yh ho a0_2 (by omega),e4];cbv;rw[e6];cbv
     rcases aj ho n1 0 with ⟨e7,g7⟩|⟨e7,g7⟩<;>(conv=>lhs;rw[e7];cbv)
     all_goals
      subst Q;exact (Eq.refl _).trans (by subst_vars;simp_all [jf])
 ·rcases aN a0_1 (-1000000000000) 1000000000000 with ⟨e2,g2⟩|⟨e2,g2⟩
  ·conv=>lhs;rw[av ho,e2];cbv
   subst Q;exact (Eq.refl _).trans (by subst_vars;simp_all [jf])
  ·conv=>lhs;rw[av ho,e2];cbv
   rcases aP ho a0_2 ⟨#[]⟩with ⟨e4,g4⟩|⟨e4,g4⟩<;>(conv=>lhs;rw[e4];cbv)
   ·subst Q;exact (Eq.refl _).trans (by subst_vars;simp_all [jf])
   ·obtain ⟨n1,e5,g5⟩:=ay ho a0_3;conv=>lhs;rw[e5];cbv
    rcases aj ho n1 0 with ⟨e6,g6⟩|⟨e6,g6⟩<;>(conv=>lhs;rw[e6];cbv)
    all_goals
     subst Q;exact (Eq.refl _).trans (by subst_vars;simp_all [jf])
theorem Kj (a0_0 a0_1:Int) (a0_2:ByteArray) (a0_3:List D) (ha:(a0_2.size:Int)<=9000000000000000000):o.call 320 [At a0_0 a0_1 a0_2 a0_3] []=Ar (Ab (jf o a0_0 a0_1 a0_2 a0_3)):=by
 refine ho.aC λR Q=> ?_
 conv=>lhs;cbv
 rcases aj ho a0_0 1 with ⟨e1,g1⟩|⟨e1,g1⟩<;>(conv=>lhs;rw[e1];cbv)
 ·rcases aj ho a0_0 2 with ⟨e2,g2⟩|⟨e2,g2⟩<;>(conv=>lhs;rw[e2];cbv)
  ·rcases aj ho a0_0 3 with ⟨e3,g3⟩|⟨e3,g3⟩<;>(conv=>lhs;rw[e3];cbv)
   ·rcases aj ho a0_0 4 with ⟨e4,g4⟩|⟨e4,g4⟩<;>(conv=>lhs;rw[e4];cbv)
    ·rcases aj ho a0_0 5 with ⟨e5,g5⟩|⟨e5,g5⟩<;>(conv=>lhs;rw[e5];cbv)
     ·subst Q;exact (Eq.refl _).trans (by subst_vars;simp_all [jf])
     ·rcases aj ho a0_1 0 with ⟨e6,g6⟩|⟨e6,g6⟩<;>(conv=>lhs;rw[e6];cbv)
      ·subst Q;exact (Eq.refl _).trans (by subst_vars;simp_all [jf])
      ·rcases aP ho a0_2 ⟨#[]⟩with ⟨e7,g7⟩|⟨e7,g7⟩<;>(conv=>lhs;rw[e7];cbv)
       ·subst Q;exact (Eq.refl _).trans (by subst_vars;simp_all [jf])
       ·obtain ⟨n1,e8,g8⟩:=ay ho a0_3;conv=>lhs;rw[e8];cbv
        rcases jT ho n1 60 with ⟨e9,g9⟩|⟨e9,g9⟩<;>(conv=>lhs;rw[e9];cbv)
        all_goals
         subst Q;exact (Eq.refl _).trans (by subst_vars;simp_all [jf])
    ·rcases aj ho a0_1 0 with ⟨e5,g5⟩|⟨e5,g5⟩<;>(conv=>lhs;rw[e5];cbv)
     ·subst Q;exact (Eq.refl _).trans (by subst_vars;simp_all [jf])
     ·rcases aP ho a0_2 ⟨#[]⟩with ⟨e6,g6⟩|⟨e6,g6⟩<;>(conv=>lhs;rw[e6];cbv)
      ·subst Q;exact (Eq.refl _).trans (by subst_vars;simp_all [jf])
      ·obtain ⟨n1,e7,g7⟩:=ay ho a0_3;conv=>lhs;rw[e7];cbv
       rcases jT ho n1 20 with ⟨e8,g8⟩|⟨e8,g8⟩<;>(conv=>lhs;rw[e8];cbv)
       all_goals
        subst Q;exact (Eq.refl _).trans (by subst_vars;simp_all [jf])
   ·rcases aN a0_1 0 1000000 with ⟨e4,g4⟩|⟨e4,g4⟩
    ·conv=>lhs;rw[aF ho,e4];cbv
     subst Q;exact (Eq.refl _).trans (by subst_vars;simp_all [jf])
    ·conv=>lhs;rw[aF ho,e4];cbv
     rcases aP ho a0_2 ⟨#[]⟩with ⟨e6,g6⟩|⟨e6,g6⟩<;>(conv=>lhs;rw[e6];cbv)
     ·subst Q;exact (Eq.refl _).trans (by subst_vars;simp_all [jf])
     ·obtain ⟨n1,e7,g7⟩:=ay ho a0_3;conv=>lhs;rw[e7];cbv
      rcases aj ho n1 0 with ⟨e8,g8⟩|⟨e8,g8⟩<;>(conv=>lhs;rw[e8];cbv)
      all_goals
       subst Q;exact (Eq.refl _).trans (by subst_vars;simp_all [jf])
  ·cases e3:Bl o a0_2
   ·conv=>lhs;rw[yj ho a0_2 (by omega),e3];cbv
    subst Q;exact (Eq.refl _).trans (by subst_vars;simp_all [jf])
   ·conv=>lhs;rw[yj ho a0_2 (by omega),e3];cbv
    rcases aj ho a0_1 0 with ⟨e5,g5⟩|⟨e5,g5⟩<;>(conv=>lhs;rw[e5];cbv)
    ·subst Q;exact (Eq.refl _).trans (by subst_vars;simp_all [jf])
    ·obtain ⟨n1,e6,g6⟩:=ay ho a0_3;conv=>lhs;rw[e6];cbv
     rcases aj ho n1 0 with ⟨e7,g7⟩|⟨e7,g7⟩<;>(conv=>lhs;rw[e7];cbv)
     all_goals
      subst Q;exact (Eq.refl _).trans (by subst_vars;simp_all [jf])
 ·rcases aN a0_1 (-1000000000000) 1000000000000 with ⟨e2,g2⟩|⟨e2,g2⟩
  ·conv=>lhs;rw[aF ho,e2];cbv
   subst Q;exact (Eq.refl _).trans (by subst_vars;simp_all [jf])
  ·conv=>lhs;rw[aF ho,e2];cbv
   rcases aP ho a0_2 ⟨#[]⟩with ⟨e4,g4⟩|⟨e4,g4⟩<;>(conv=>lhs;rw[e4];cbv)
   ·subst Q;exact (Eq.refl _).trans (by subst_vars;simp_all [jf])
   ·obtain ⟨n1,e5,g5⟩:=ay ho a0_3;conv=>lhs;rw[e5];cbv
    rcases aj ho n1 0 with ⟨e6,g6⟩|⟨e6,g6⟩<;>(conv=>lhs;rw[e6];cbv)
    all_goals
     subst Q;exact (Eq.refl _).trans (by subst_vars;simp_all [jf])
end
def jM (o:aJ):Nat->D->Int
 | d+1,.agg [.int _ k,.int _ n,.str s,.lst l]=>if jf o k n s l then (if 1+bI (jM o d) l<=300 then 1+bI (jM o d) l else 301)else 301
 | _,_=>301
theorem qd (o:aJ) (d:Nat) (t:D):1<=jM o d t/\jM o d t<=301:=by
 unfold jM;split
 ·rename_i d _ k _ n s l;have:0<=bI (jM o d) l:=eL (λx=>(qd o d x).1) l;split
  ·split<;>omega
  ·omega
 ·omega
def qm (o:aJ) (t:D):Bool:=decide (jM o 8 t<=300)
theorem bP {n:Nat} {d:D} (h:Tm n d):∃m k c s l,n=m+1/\d= .agg [.int .i64 k,.int .i64 c,.str s,.lst l]/\(s.size:Int)<=1048576/\(l.length:Int)<=1048576/\∀x∈l,Tm m x:=by
 cases n with
 | zero=>exact h.elim
 | succ m=>obtain ⟨k,c,s,l,r⟩:=h;exact ⟨m,k,c,s,l,rfl,r⟩
theorem iC {n:Nat} {k c:Int} {s:ByteArray} {l:List D} (h:Tm n (.agg [.int .i64 k,.int .i64 c,.str s,.lst l])):∃m,n=m+1/\(s.size:Int)<=1048576/\(l.length:Int)<=1048576/\∀x∈l,Tm m x:=by
 obtain ⟨m,k',c',s',l',e,e2,r⟩:=bP h;injection e2 with e2;simp only[List.cons.injEq,D.int.injEq,D.str.injEq,D.lst.injEq,true_and,and_true]at e2;obtain ⟨rfl,rfl,rfl,rfl⟩:=e2;exact ⟨m,e,r⟩
def MS (o:aJ) (d:Nat):Prop:=∀m k n s l,Tm m (.agg [.int .i64 k,.int .i64 n,.str s,.lst l])->∀a:Int,a=9-d->o.call 153 [.agg [.d (.int .i64 k),.d (.int .i64 n),.d (.str s),.d (.lst l)],.d (.int .i64 a)] []=some ⟨.d (.int .i64 (jM o d (.agg [.int .i64 k,.int .i64 n,.str s,.lst l]))),[],[]⟩
def LK (o:aJ) (d:Nat):Prop:=∀m k n s l,Tm m (.agg [.int .i64 k,.int .i64 n,.str s,.lst l])->∀a b:Int,a=d->0<=b->b<=300->o.call 245 [.agg [.d (.int .i64 k),.d (.int .i64 n),.d (.str s),.d (.lst l)],.d (.int .i64 a),.d (.int .i64 b)] []=some ⟨.d (.int .i64 (if jM o d (.agg [.int .i64 k,.int .i64 n,.str s,.lst l])<=b then b-jM o d (.agg [.int .i64 k,.int .i64 n,.str s,.lst l])else-1)),[],[]⟩
section
variable {o:aJ} (ho:aR cF bB o)
include ho
def bk (a1 i:Int) (a0_3:List D) (n1 i1:Int):St:=⟨E 32 [(1,Ai a1),(5,Ai i),(16,Al a0_3),(17,Ai n1),(18,Ai i1)],O 32 []⟩
def ep (n6:Int):St:=⟨E 32 [(4,Ai 301),(5,Ai n6)],O 32 []⟩
def ez (i:Int):St:=⟨E 32 [(5,Ai i)],O 32 []⟩
def j4 (a1 i a0_0 a0_1:Int) (a0_2:ByteArray) (a0_3:List D) (i1:Int):St:=⟨E 42 [(1,Ai a1),(2,Ai i),(3,.sp [.int .i64 a0_0,.int .i64 a0_1,.str a0_2,.lst a0_3] 0),(7,Ai i1)],O 42 []⟩
def ga (i:Int):St:=⟨E 42 [(2,Ai i)],O 42 []⟩
theorem EN (d:Nat) (hd:d<=7) (IH:MS o d) (a1:Int) (ha1:a1=8-d) (a0_3:List D) (m:Nat) (hT:∀x∈a0_3,Tm m x) (n1:Int) (hn:(a0_3.length:Int)=n1) (hl:n1<=1048576):∀i1:Int,0<=i1->i1<=(n1:Int)->∀i:Int,1<=i->i<=300->(i+bI (jM o d) (a0_3.drop i1.toNat)<=300->o.loop 15300 (bk a1 i a0_3 n1 i1)=some (.exit 0,ez (i+bI (jM o d) (a0_3.drop i1.toNat))))/\(¬i+bI (jM o d) (a0_3.drop i1.toNat)<=300->∃v,o.loop 15300 (bk a1 i a0_3 n1 i1)=some (.ret,ep v)):=by
 refine bV (P:=λi1=>∀i:Int,1<=i->i<=300->(i+bI (jM o d) (a0_3.drop i1.toNat)<=300->o.loop 15300 (bk a1 i a0_3 n1 i1)=some (.exit 0,ez (i+bI (jM o d) (a0_3.drop i1.toNat))))/\(¬i+bI (jM o d) (a0_3.drop i1.toNat)<=300->∃v,o.loop 15300 (bk a1 i a0_3 n1 i1)=some (.ret,ep v))) (n1:Int) ?_;intro i1 h0 h1 ih;try dsimp only at ih |-
 intro i hc0 hc1;rcases aZ ho i1 n1 with ⟨e1,g1⟩|⟨e1,g1⟩
 ·rw[bf hn (by omega)];simp only[bI,Int.add_zero];exact ⟨λ_=>(ho.aB (by cbv;repeat (simp only[e1];try cbv)):_=some (.exit 0,ez i)),λh=>absurd hc1 h⟩
 ·obtain ⟨x,hx0,hx1,hx2⟩:=ax hn h0 g1;obtain ⟨m',n2,n3,s1,l1,rfl,rfl,hs,hl,ht⟩:=bP (hT _ hx2);have e2:=ak ho h0 hx0;obtain ⟨n4,e3⟩:=kx (o.ar .add .i64 a1 1);try have g3:n4=a1+1:=e3.symm.trans (ck ho (by omega) (by omega))
  obtain ⟨n5,g4,e4⟩:∃n5,n5=jM o d (.agg [.int .i64 n2,.int .i64 n3,.str s1,.lst l1])/\o.call 153 [At n2 n3 s1 l1,Ai n4] []=Ar (Ai n5):=⟨_,rfl,IH _ _ _ _ _ (hT _ hx2) _ (by omega)⟩
  have b4:=qd o d (.agg [.int .i64 n2,.int .i64 n3,.str s1,.lst l1]);have s4:=eL (λx=>(qd o d x).1) (a0_3.drop (i1+1).toNat);obtain ⟨n6,e5⟩:=kx (o.ar .add .i64 i n5);try have g5:n6=i+n5:=e5.symm.trans (ck ho (by omega) (by omega))
  rcases fR ho n6 300 with ⟨e6,g6⟩|⟨e6,g6⟩
  ·obtain ⟨n7,e7⟩:=kx (o.ar .add .i64 i1 1);try have g7:n7=i1+1:=e7.symm.trans (ck ho (by omega) (by omega))
   rw[hx1];simp only[bI];have ih2:=ih (by omega) n6 (by omega) (by omega);rw[show n6+bI (jM o d) (a0_3.drop (i1+1).toNat)=i+(jM o d (.agg [.int .i64 n2,.int .i64 n3,.str s1,.lst l1])+bI (jM o d) (a0_3.drop (i1+1).toNat)) by omega,show i1+1=n7 by omega]at ih2;rw[show i1+1=n7 by omega];exact ⟨λh=>(λz (hz:o.loop 15300 (bk a1 n6 a0_3 n1 n7)=some z)=>ho.aB (by rw[<-hz];cbv;repeat (simp only[e1,e2,e3,e4,e5,e6,e7];try cbv)):∀z,o.loop 15300 (bk a1 n6 a0_3 n1 n7)=some z->o.loop 15300 (bk a1 i a0_3 n1 i1)=some z) _ (ih2.1 h),λh=>(ih2.2 h).imp λv h=>(λz (hz:o.loop 15300 (bk a1 n6 a0_3 n1 n7)=some z)=>ho.aB (by rw[<-hz];cbv;repeat (simp only[e1,e2,e3,e4,e5,e6,e7];try cbv)):∀z,o.loop 15300 (bk a1 n6 a0_3 n1 n7)=some z->o.loop 15300 (bk a1 i a0_3 n1 i1)=some z) _ h⟩
  ·rw[hx1];simp only[bI];exact ⟨λh=>by omega,λ_=>⟨_,(ho.aB (by cbv;repeat (simp only[e1,e2,e3,e4,e5,e6];try cbv)):_=some (.ret,ep n6))⟩⟩
theorem EO (d:Nat) (hd:d<=7) (IH:MS o d) (m:Nat) (a0_0 a0_1:Int) (a0_2:ByteArray) (a0_3:List D) (hT:Tm m (.agg [.int .i64 a0_0,.int .i64 a0_1,.str a0_2,.lst a0_3])) (a1:Int) (ha1:a1=8-d):o.call 153 [At a0_0 a0_1 a0_2 a0_3,Ai a1] []=Ar (Ai (jM o (d+1) (.agg [.int .i64 a0_0,.int .i64 a0_1,.str a0_2,.lst a0_3]))):=by
 obtain ⟨m,rfl,hs,hl,hT⟩:=iC hT;have ha:(a0_2.size:Int)<=9000000000000000000:=by omega
 rcases fR ho a1 8 with ⟨e1,g1⟩|⟨e1,g1⟩
 ·cases e2:jf o a0_0 a0_1 a0_2 a0_3
  ·have e3:o.call 249 [At a0_0 a0_1 a0_2 a0_3] []=Ar (Ab false):=(Ki ho a0_0 a0_1 a0_2 a0_3 (by omega)).trans (by rw[e2]);exact (ho.au (by cbv;repeat (simp only[e1,e2,e3];try cbv)):_=Ar (Ai 301)).trans (by simp only[jM];rw[e2];rfl)
  ·have e3:o.call 249 [At a0_0 a0_1 a0_2 a0_3] []=Ar (Ab true):=(Ki ho a0_0 a0_1 a0_2 a0_3 (by omega)).trans (by rw[e2]);obtain ⟨n1,e4,g4⟩:=ay ho a0_3;have hl:=EN ho d hd IH a1 ha1 a0_3 m hT n1 g4.symm (by omega) 0 (Int.le_refl _) (by omega) 1 (by omega) (by omega);rw[show (0:Int).toNat=0 from rfl,List.drop_zero]at hl;by_cases hc:1+bI (jM o d) a0_3<=300
   ·obtain ⟨n2,g5,e5⟩:∃n2,n2=1+bI (jM o d) a0_3/\o.loop 15300 (bk a1 1 a0_3 n1 0)=some (.exit 0,ez n2):=⟨_,rfl,hl.1 hc⟩
    exact (ho.au (by cbv at e5;cbv;repeat (simp only[e1,e2,e3,e4,e5];try cbv)):_=Ar (Ai n2)).trans (by simp only[jM];rw[e2,if_pos rfl,if_pos hc,g5])
   ·obtain ⟨n2,e5⟩:∃n2,o.loop 15300 (bk a1 1 a0_3 n1 0)=some (.ret,ep n2):=hl.2 hc;exact (ho.au (by cbv at e5;cbv;repeat (simp only[e1,e2,e3,e4,e5];try cbv)):_=Ar (Ai 301)).trans (by simp only[jM];rw[e2,if_pos rfl,if_neg hc])
 ·omega
theorem qo {a1 a0_0 a0_1:Int} {a0_2:ByteArray} {a0_3:List D} (ha:(a0_2.size:Int)<=9000000000000000000) (e1:o.cmp .gtr a1 8=true):o.call 153 [At a0_0 a0_1 a0_2 a0_3,Ai a1] []=Ar (Ai 301):=by
 refine ho.au ?_
 cbv
 repeat' (first | (rw[e1];try cbv))
theorem measure (d:Nat) (hd:d<=8):MS o d:=by
 induction d with
 | zero=>
  intro m k n s l h a ha;obtain ⟨m,rfl,hs,hl,hT⟩:=iC h;exact (qo ho (by omega) (Om ho (by omega))).trans (by simp only[jM])
 | succ d ih=>
  intro m k n s l h a ha;exact EO ho d (by omega) (ih (by omega)) m k n s l h a (by omega)
theorem H_ (d:Nat) (hd:d<=7) (IH:LK o d) (a1:Int) (ha1:a1=d+1) (a0_0 a0_1:Int) (a0_2:ByteArray) (a0_3:List D) (m:Nat) (hT:∀x∈a0_3,Tm m x) (n1:Int) (hn:(a0_3.length:Int)=n1) (hl:n1<=1048576):∀i1:Int,0<=i1->i1<=(n1:Int)->∀i:Int,-1<=i->i<=300->o.loop 24500 (j4 a1 i a0_0 a0_1 a0_2 a0_3 i1)=some (.exit 0,ga (if bI (jM o d) (a0_3.drop i1.toNat)<=i then i-bI (jM o d) (a0_3.drop i1.toNat)else-1)):=by
 refine bV (P:=λi1=>∀i:Int,-1<=i->i<=300->o.loop 24500 (j4 a1 i a0_0 a0_1 a0_2 a0_3 i1)=some (.exit 0,ga (if bI (jM o d) (a0_3.drop i1.toNat)<=i then i-bI (jM o d) (a0_3.drop i1.toNat)else-1))) (n1:Int) ?_;intro i1 h0 h1 ih;try dsimp only at ih |-
 intro i hc0 hc1;have s0:=eL (λx=>(qd o d x).1) (a0_3.drop i1.toNat);refine ho.dO λR Q=> ?_
 have e1:o.len a0_3=n1:=(iI ho _).trans hn;conv=>lhs;cbv;rw[e1];cbv
 rcases aZ ho i1 n1 with ⟨e2,g2⟩|⟨e2,g2⟩<;>(conv=>lhs;rw[e2];cbv)
 ·subst Q;show some (Out.exit 0,ga i)=_;rw[bf hn (by omega)];simp only[bI,Int.sub_zero];by_cases h:0<=i
  · rw[if_pos h]
  · rw[if_neg h,show i= -1 by omega]
 ·rcases je ho i 0 with ⟨e3,g3⟩|⟨e3,g3⟩<;>(conv=>lhs;rw[e3];cbv)
  ·subst Q;show some (Out.exit 0,ga i)=_;rw[if_neg (by omega),show i= -1 by omega]
  ·obtain ⟨x,hx0,hx1,hx2⟩:=ax hn h0 g2;obtain ⟨m',n2,n3,s1,l1,rfl,rfl,hs,hl,ht⟩:=bP (hT _ hx2);have e4:=ak ho h0 hx0;obtain ⟨n4,e5,g5⟩:=aO ho a1 1;have b4:=qd o d (.agg [.int .i64 n2,.int .i64 n3,.str s1,.lst l1]);have s4:=eL (λx=>(qd o d x).1) (a0_3.drop (i1+1).toNat);obtain ⟨n5,g6,e6⟩:∃n5,n5=(if jM o d (.agg [.int .i64 n2,.int .i64 n3,.str s1,.lst l1])<=i then i-jM o d (.agg [.int .i64 n2,.int .i64 n3,.str s1,.lst l1])else-1)/\o.call 245 [.agg [.d (.int .i64 n2),.d (.int .i64 n3),.d (.str s1),.d (.lst l1)],.d (.int .i64 n4),.d (.int .i64 i)] []=some ⟨.d (.int .i64 n5),[],[]⟩:=⟨_,rfl,IH _ _ _ _ _ (hT _ hx2) _ _ (by omega) (by omega) (by omega)⟩
   have h5: -1<=n5/\n5<=300:=by rw[g6];split<;>omega
   obtain ⟨n6,e7,g7⟩:=aW ho i1 1;conv=>lhs;rw[e4];cbv;rw[e5];cbv;rw[e6];cbv;rw[e7];cbv
   subst Q;show o.loop 24500 (j4 a1 n5 a0_0 a0_1 a0_2 a0_3 n6)=_;have ih2:=ih (by omega) n5 (by omega) (by omega);rw[show i1+1=n6 by omega]at ih2;refine ih2.trans ?_;rw[hx1,show i1+1=n6 by omega];rw[show i1+1=n6 by omega]at s4;simp only[bI];congr 3;split at g6<;>(repeat' split)<;>omega
theorem Ia (d:Nat) (hd:d<=7) (IH:LK o d) (m:Nat) (a0_0 a0_1:Int) (a0_2:ByteArray) (a0_3:List D) (hT:Tm m (.agg [.int .i64 a0_0,.int .i64 a0_1,.str a0_2,.lst a0_3])) (a1 a2:Int) (ha1:a1=d+1) (h2:0<=a2) (h3:a2<=300):o.call 245 [.agg [.d (.int .i64 a0_0),.d (.int .i64 a0_1),.d (.str a0_2),.d (.lst a0_3)],.d (.int .i64 a1),.d (.int .i64 a2)] []=some ⟨.d (.int .i64 (if jM o (d+1) (.agg [.int .i64 a0_0,.int .i64 a0_1,.str a0_2,.lst a0_3])<=a2 then a2-jM o (d+1) (.agg [.int .i64 a0_0,.int .i64 a0_1,.str a0_2,.lst a0_3])else-1)),[],[]⟩:=by
 obtain ⟨m,rfl,hs,hl,hT⟩:=iC hT;have ha:(a0_2.size:Int)<=9000000000000000000:=by omega
 have s4:=eL (λx=>(qd o d x).1) a0_3;have b4:=qd o (d+1) (.agg [.int .i64 a0_0,.int .i64 a0_1,.str a0_2,.lst a0_3]);rcases aZ ho a1 1 with ⟨e1,g1⟩|⟨e1,g1⟩
 ·rcases aZ ho a2 1 with ⟨e2,g2⟩|⟨e2,g2⟩
  ·cases e3:jf o a0_0 a0_1 a0_2 a0_3
   ·have e4:o.call 320 [.agg [.d (.int .i64 a0_0),.d (.int .i64 a0_1),.d (.str a0_2),.d (.lst a0_3)]] []=some ⟨.d (.bool false),[],[]⟩:=(Kj ho a0_0 a0_1 a0_2 a0_3 (by omega)).trans (by rw[e3]);have hm:jM o (d+1) (.agg [.int .i64 a0_0,.int .i64 a0_1,.str a0_2,.lst a0_3])=301:=by simp only[jM];rw[e3];rfl
    exact (ho.au (by cbv;repeat (simp only[e1,e2,e3,e4];try cbv)):_=some ⟨.d (.int .i64 (-1)),[],[]⟩).trans (by rw[if_neg (by omega)])
   ·have e4:o.call 320 [.agg [.d (.int .i64 a0_0),.d (.int .i64 a0_1),.d (.str a0_2),.d (.lst a0_3)]] []=some ⟨.d (.bool true),[],[]⟩:=(Kj ho a0_0 a0_1 a0_2 a0_3 (by omega)).trans (by rw[e3]);obtain ⟨n1,e5⟩:=kx (o.ar .sub .i64 a2 1);try have g5:n1=a2-1:=e5.symm.trans (dB ho (by omega) (by omega))
    have hl:=H_ ho d hd IH a1 (by omega) a0_0 a0_1 a0_2 a0_3 m hT _ rfl (by omega) 0 (Int.le_refl _) (by omega) n1 (by omega) (by omega);rw[show (0:Int).toNat=0 from rfl,List.drop_zero]at hl;obtain ⟨n2,g6,e6⟩:∃n2,n2=(if bI (jM o d) a0_3<=n1 then n1-bI (jM o d) a0_3 else-1)/\o.loop 24500 (j4 a1 n1 a0_0 a0_1 a0_2 a0_3 0)=some (.exit 0,ga n2):=⟨_,rfl,hl⟩
    have hm:jM o (d+1) (.agg [.int .i64 a0_0,.int .i64 a0_1,.str a0_2,.lst a0_3])=(if 1+bI (jM o d) a0_3<=300 then 1+bI (jM o d) a0_3 else 301):=by simp only[jM];rw[e3,if_pos rfl]
    exact (ho.au (by cbv at e6;cbv;repeat (simp only[e1,e2,e3,e4,e5,e6];try cbv)):_=some ⟨.d (.int .i64 n2),[],[]⟩).trans (by rw[hm,g6];congr 4;(repeat' split)<;>omega)
  ·exact (ho.au (by cbv;repeat (simp only[e1,e2];try cbv)):_=some ⟨.d (.int .i64 (-1)),[],[]⟩).trans (by rw[if_neg (by omega)])
 ·omega
theorem yG {a1 a0_0 a0_1:Int} {a0_2:ByteArray} {a0_3:List D} {a2:Int} (ha:(a0_2.size:Int)<=9000000000000000000) (e1:o.cmp .lss a1 1=true):o.call 245 [At a0_0 a0_1 a0_2 a0_3,Ai a1,Ai a2] []=Ar (Ai (-1)):=by
 refine ho.au ?_
 cbv
 repeat' (first | (rw[e1];try cbv))
theorem Le (d:Nat) (hd:d<=8):LK o d:=by
 induction d with
 | zero=>
  intro m k n s l h a b ha hb hb2;obtain ⟨m,rfl,hs,hl,hT⟩:=iC h;have hm:jM o 0 (.agg [.int .i64 k,.int .i64 n,.str s,.lst l])=301:=rfl;exact (yG ho (by omega) (Jl ho (by omega))).trans (by rw[if_neg (by omega)])
 | succ d ih=>
  intro m k n s l h a b ha hb hb2;exact Ia ho d (by omega) (ih (by omega)) m k n s l h a b (by omega) hb hb2
end
theorem lq:∀{n:Nat} {d:D},Tm n d->Tm (n+1) d
 | 0,_,h=>h.elim
 | n+1,_,⟨k,m,s,l,e,a,b,c⟩=>⟨k,m,s,l,e,a,b,λx hx=>lq (c x hx)⟩
def Rt (o:aJ):Nat->D->Prop
 | 0,_=>False
 | n+1,d=>∃k m s l,d= .agg [.int .i64 k,.int .i64 m,.str s,.lst l]/\jf o k m s l=true/\∀x∈l,Rt o n x
theorem hU {o:aJ} {k m:Int} {s:ByteArray} {l:List D} (h:jf o k m s l=true):(s.size:Int)<=20/\(l.length:Int)<=60:=by
 unfold jf at h;have e0:(⟨#[]⟩:ByteArray).size=0:=rfl;split at h
 ·simp only[af,decide_eq_true_eq]at h;rw[h.1.2,e0];omega
 split at h
 ·simp only[af,decide_eq_true_eq,Bl]at h;have:=bH h.1.1.2;omega
 split at h
 ·simp only[af,decide_eq_true_eq]at h;rw[h.1.2,e0];omega
 split at h
 ·simp only[af,decide_eq_true_eq]at h;rw[h.1.2,e0];omega
 split at h
 ·simp only[af,decide_eq_true_eq]at h;rw[h.1.2,e0];omega
 ·cases h
theorem iS {o:aJ}:∀{n:Nat} {d:D},Rt o n d->Tm n d
 | 0,_,h=>h.elim
 | n+1,_,⟨k,m,s,l,e,a,c⟩=>⟨k,m,s,l,e,by have:=hU a;omega,by have:=hU a;omega,λx hx=>iS (c x hx)⟩
theorem gb {o:aJ} {n:Nat} {d:D} (h:Rt o n d):∃m k c s l,n=m+1/\d= .agg [.int .i64 k,.int .i64 c,.str s,.lst l]/\jf o k c s l=true/\∀x∈l,Rt o m x:=by
 cases n with
 | zero=>exact h.elim
 | succ m=>obtain ⟨k,c,s,l,r⟩:=h;exact ⟨m,k,c,s,l,rfl,r⟩
theorem tK {o:aJ} {n:Nat} {k c:Int} {s:ByteArray} {l:List D} (h:Rt o n (.agg [.int .i64 k,.int .i64 c,.str s,.lst l])):∃m,n=m+1/\jf o k c s l=true/\∀x∈l,Rt o m x:=by
 obtain ⟨m,k',c',s',l',e,e2,r⟩:=gb h;injection e2 with e2;simp only[List.cons.injEq,D.int.injEq,D.str.injEq,D.lst.injEq,true_and,and_true]at e2;obtain ⟨rfl,rfl,rfl,rfl⟩:=e2;exact ⟨m,e,r⟩
theorem pD {f:D->Int} (hf:∀x,1<=f x):∀{xs:List D} {x:D},x∈xs->f x<=bI f xs
 | y::ys,x,h=>by
  have:=eL hf ys;have:=hf y;simp only[bI];rcases List.mem_cons.1 h with rfl | h
  ·omega
  ·have:=pD hf h;omega
theorem EW {o:aJ}:∀{d n:Nat} {t:D},Tm n t->jM o d t<=300->Rt o d t
 | 0,_,_,_,h=>by simp only[jM]at h;omega
 | d+1,n,t,ht,h=>by
  obtain ⟨m,k,c,s,l,rfl,rfl,h1,h2,h3⟩:=bP ht;simp only[jM]at h;split at h
  ·rename_i hs;split at h
   ·rename_i h5;refine ⟨k,c,s,l,rfl,hs,λx hx=>EW (h3 x hx) ?_⟩;have:=pD (f:=jM o d) (λx=>(qd o d x).1) hx;omega
   ·omega
  ·omega
theorem Bw {o:aJ} {n:Nat} {t:D} (ht:Tm n t) (h:qm o t=true):Rt o 8 t:=EW ht (of_decide_eq_true h)
noncomputable def bN (a b:D):Bool:= @decide (a=b) (Classical.propDecidable _)
theorem mY {a b:D} (h:a=b):bN a b=true:=by unfold bN;exact @decide_eq_true _ (Classical.propDecidable _) h
theorem dV {a b:D} (h:a≠b):bN a b=false:=by unfold bN;exact @decide_eq_false _ (Classical.propDecidable _) h
theorem lu {a b:D} (h:bN a b=true):a=b:=by unfold bN at h;exact @of_decide_eq_true _ (Classical.propDecidable _) h
theorem lz {a b:D} (h:bN a b=false):a≠b:=by unfold bN at h;exact @of_decide_eq_false _ (Classical.propDecidable _) h
section
variable {o:aJ} (ho:aR cF bB o)
include ho
theorem mr {m:Nat} (a0_0 a0_1:Int) (a0_2:ByteArray) (a0_3:List D) (hT:Tm m (.agg [.int .i64 a0_0,.int .i64 a0_1,.str a0_2,.lst a0_3])):o.call 68 [.agg [.d (.int .i64 a0_0),.d (.int .i64 a0_1),.d (.str a0_2),.d (.lst a0_3)]] []=some ⟨.d (.bool (qm o (.agg [.int .i64 a0_0,.int .i64 a0_1,.str a0_2,.lst a0_3]))),[],[]⟩:=by
 refine ho.aC λR Q=> ?_
 obtain ⟨n1,he1⟩:∃v,jM o 8 (.agg [.int .i64 a0_0,.int .i64 a0_1,.str a0_2,.lst a0_3])=v:=⟨_,rfl⟩
 have e1:o.call 153 [.agg [.d (.int .i64 a0_0),.d (.int .i64 a0_1),.d (.str a0_2),.d (.lst a0_3)],.d (.int .i64 1)] []=some ⟨.d (.int .i64 n1),[],[]⟩:=(measure ho 8 (by omega) _ _ _ _ _ hT _ (by omega)).trans (by rw[he1]);conv=>lhs;cbv;rw[e1];cbv
 rcases jT ho n1 300 with ⟨e2,g2⟩|⟨e2,g2⟩<;>(conv=>lhs;rw[e2];cbv)
 all_goals
  subst Q;exact (Eq.refl _).trans (by congr 3;unfold qm;congr 1;first | exact (decide_eq_false (by omega)).symm | exact (decide_eq_true (by omega)).symm)
theorem oI {m:Nat} (a0_0 a0_1:Int) (a0_2:ByteArray) (a0_3:List D) (hT:Tm m (.agg [.int .i64 a0_0,.int .i64 a0_1,.str a0_2,.lst a0_3])):o.call 147 [.agg [.d (.int .i64 a0_0),.d (.int .i64 a0_1),.d (.str a0_2),.d (.lst a0_3)]] []=some ⟨.d (.bool (qm o (.agg [.int .i64 a0_0,.int .i64 a0_1,.str a0_2,.lst a0_3]))),[],[]⟩:=by
 refine ho.aC λR Q=> ?_
 obtain ⟨n1,he1⟩:∃v,(if jM o 8 (.agg [.int .i64 a0_0,.int .i64 a0_1,.str a0_2,.lst a0_3])<=300 then 300-jM o 8 (.agg [.int .i64 a0_0,.int .i64 a0_1,.str a0_2,.lst a0_3])else-1)=v:=⟨_,rfl⟩
 have e1:o.call 245 [.agg [.d (.int .i64 a0_0),.d (.int .i64 a0_1),.d (.str a0_2),.d (.lst a0_3)],.d (.int .i64 8),.d (.int .i64 300)] []=some ⟨.d (.int .i64 n1),[],[]⟩:=(Le ho 8 (by omega) _ _ _ _ _ hT _ _ (by omega) (by omega) (by omega)).trans (by rw[he1]);conv=>lhs;cbv;rw[e1];cbv
 rcases je ho n1 0 with ⟨e2,g2⟩|⟨e2,g2⟩<;>(conv=>lhs;rw[e2];cbv)
 all_goals
  subst Q;have b:=qd o 8 (.agg [.int .i64 a0_0,.int .i64 a0_1,.str a0_2,.lst a0_3]);exact (Eq.refl _).trans (by congr 3;unfold qm;congr 1;split at he1<;>first | exact (decide_eq_false (by omega)).symm | exact (decide_eq_true (by omega)).symm)
def qe (a0:List D) (n1 i:Int):St:=⟨E 15 [(5,Al a0),(6,Ai n1),(7,Ai i)],O 15 []⟩
def nR:St:=⟨E 15 [],O 15 []⟩
def nS:St:=⟨E 15 [(2,Ab false)],O 15 []⟩
theorem EX {m:Nat} (a0:List D) (hT:∀x∈a0,Tm m x) (n1:Int) (hn:(a0.length:Int)=n1) (hl:n1<=1048576):∀i:Int,0<=i->i<=(n1:Int)->o.loop 15800 (qe a0 n1 i)=some (if (a0.drop i.toNat).all (qm o)then (.exit 0,nR)else (.ret,nS)):=by
 refine bV (P:=λi=>o.loop 15800 (qe a0 n1 i)=some (if (a0.drop i.toNat).all (qm o)then (.exit 0,nR)else (.ret,nS))) (n1:Int) ?_;intro i h0 h1 ih;try dsimp only at ih |-
 refine ho.dO λR Q=> ?_
 conv=>lhs;cbv
 rcases aZ ho i n1 with ⟨e1,g1⟩|⟨e1,g1⟩<;>(conv=>lhs;rw[e1];cbv)
 ·subst Q;rw[bf hn (by omega)];rfl
 ·obtain ⟨x,hx0,hx1,hx2⟩:=ax hn h0 g1;obtain ⟨m',n2,n3,s1,l1,rfl,rfl,hs,hl,ht⟩:=bP (hT _ hx2);have e2:=ak ho h0 hx0;conv=>lhs;rw[e2];cbv
  cases he3:qm o (.agg [.int .i64 n2,.int .i64 n3,.str s1,.lst l1])<;>(conv=>lhs;rw[mr ho _ _ _ _ (hT _ hx2),he3];cbv)
  ·subst Q;rw[hx1,List.all_cons,he3];rfl
  ·obtain ⟨n4,e4,g4⟩:=aW ho i 1;conv=>lhs;rw[e4];cbv
   subst Q;rw[hx1,List.all_cons,he3,Bool.true_and];rw[show n4=i+1 by omega];exact ih (by omega)
theorem EY {m:Nat} (a0:List D) (hT:∀x∈a0,Tm m x) (hl:(a0.length:Int)<=1048576):o.call 158 [Al a0] []=Ar (Ab (a0.all (qm o))):=by
 refine ho.aC λR Q=> ?_
 obtain ⟨n1,e1,g1⟩:=ay ho a0;conv=>lhs;cbv;rw[e1];cbv
 have hl:=EX ho a0 hT n1 g1.symm (by omega) 0 (Int.le_refl _) (by omega);rw[show (0:Int).toNat=0 from rfl,List.drop_zero]at hl;conv at hl=>lhs;cbv
 cases hc:a0.all (qm o)<;>(conv=>lhs;rw[hl,hc];cbv)
 all_goals
  subst Q;first | rfl | simp only[hc]
def jg (a1 a0:List D) (n1 i:Int):St:=⟨E 32 [(1,Al a1),(2,.fn 66 []),(15,Al a0),(16,Ai n1),(17,Ai i)],O 32 []⟩
def iD:St:=⟨E 32 [],O 32 []⟩
def iE:St:=⟨E 32 [(6,Ab false)],O 32 []⟩
def oJ (a0_0 a0_1:Int) (a0_2:ByteArray) (a0_3:List D) (a1_0 a1_1:Int) (a1_2:ByteArray) (a1_3:List D) (i:Int):St:=⟨E 53 [(2,.sp [.int .i64 a0_0,.int .i64 a0_1,.str a0_2,.lst a0_3] 0),(3,.sp [.int .i64 a1_0,.int .i64 a1_1,.str a1_2,.lst a1_3] 0),(5,Ai i)],O 53 []⟩
def mz:St:=⟨E 53 [],O 53 []⟩
def mA:St:=⟨E 53 [(4,Ab false)],O 53 []⟩
omit ho in
def ST (o:aJ) (f:FuncId) (d:Nat):Prop:=∀k n s l k' n' s' l' m,Tm d (.agg [.int .i64 k,.int .i64 n,.str s,.lst l])->Tm m (.agg [.int .i64 k',.int .i64 n',.str s',.lst l'])->o.call f [.agg [.d (.int .i64 k),.d (.int .i64 n),.d (.str s),.d (.lst l)],.agg [.d (.int .i64 k'),.d (.int .i64 n'),.d (.str s'),.d (.lst l')]] []=some ⟨.d (.bool (bN (.agg [.int .i64 k,.int .i64 n,.str s,.lst l]) (.agg [.int .i64 k',.int .i64 n',.str s',.lst l']))),[],[]⟩
theorem Iv (d:Nat) (IH:ST o 66 d) (a0 a1:List D) {m2:Nat} (hT:∀x∈a0,Tm d x) (hT2:∀x∈a1,Tm m2 x) (n1:Int) (hn:(a0.length:Int)=n1) (hn2:(a1.length:Int)=n1) (hl:n1<=1048576):∀i:Int,0<=i->i<=(n1:Int)->o.loop 15100 (jg a1 a0 n1 i)=some (if bN (.lst (a0.drop i.toNat)) (.lst (a1.drop i.toNat))then (.exit 0,iD)else (.ret,iE)):=by
 refine bV (P:=λi=>o.loop 15100 (jg a1 a0 n1 i)=some (if bN (.lst (a0.drop i.toNat)) (.lst (a1.drop i.toNat))then (.exit 0,iD)else (.ret,iE))) (n1:Int) ?_;intro i h0 h1 ih;try dsimp only at ih |-
 refine ho.dO λR Q=> ?_
 conv=>lhs;cbv
 rcases aZ ho i n1 with ⟨e1,g1⟩|⟨e1,g1⟩<;>(conv=>lhs;rw[e1];cbv)
 ·subst Q;rw[bf hn (by omega),bf hn2 (by omega),mY rfl];rfl
 ·obtain ⟨x,hx0,hx1,hx2⟩:=ax hn h0 g1;obtain ⟨m',n2,n3,s1,l1,rfl,rfl,hs,hl,ht⟩:=bP (hT _ hx2);have e2:=ak ho h0 hx0;obtain ⟨y,hy0,hy1,hy2⟩:=ax hn2 h0 g1;obtain ⟨m'',n4,n5,s2,l2,rfl,rfl,hs',hl',ht'⟩:=bP (hT2 _ hy2);have e3:=ak ho h0 hy0;conv=>lhs;rw[e2];cbv;rw[e3];cbv
  cases he4:bN (.agg [.int .i64 n2,.int .i64 n3,.str s1,.lst l1]) (.agg [.int .i64 n4,.int .i64 n5,.str s2,.lst l2])<;>(conv=>lhs;rw[IH _ _ _ _ _ _ _ _ _ (hT _ hx2) (hT2 _ hy2),he4];cbv)
  ·subst Q;rw[dV (a:= .lst (a0.drop i.toNat)) (λh=>lz he4 (by rw[hx1,hy1]at h;simp only[D.lst.injEq,List.cons.injEq]at h;rw[h.1]))];rfl
  ·obtain ⟨n6,e5,g5⟩:=aW ho i 1;conv=>lhs;rw[e5];cbv
   subst Q;have hq:bN (.lst (a0.drop i.toNat)) (.lst (a1.drop i.toNat))=bN (.lst (a0.drop (i+1).toNat)) (.lst (a1.drop (i+1).toNat)):=by
    have h1:=lu he4;cases h2:bN (.lst (a0.drop (i+1).toNat)) (.lst (a1.drop (i+1).toNat))
    ·exact dV λh=>lz h2 (by rw[hx1,hy1]at h;simp only[D.lst.injEq,List.cons.injEq]at h;rw[h.2])
    ·refine mY ?_;have h3:=lu h2;simp only[D.lst.injEq]at h3;rw[hx1,hy1,h1,h3]
   rw[hq];rw[show n6=i+1 by omega];exact ih (by omega)
theorem Iw (d:Nat) (IH:ST o 347 d) (a0_0 a0_1:Int) (a0_2:ByteArray) (a1_0 a1_1:Int) (a1_2:ByteArray) (a0_3 a1_3:List D) {m2:Nat} (hT:∀x∈a0_3,Tm d x) (hT2:∀x∈a1_3,Tm m2 x) (n1:Int) (hn:(a0_3.length:Int)=n1) (hn2:(a1_3.length:Int)=n1) (hl:n1<=1048576):∀i:Int,0<=i->i<=(n1:Int)->o.loop 34700 (oJ a0_0 a0_1 a0_2 a0_3 a1_0 a1_1 a1_2 a1_3 i)=some (if bN (.lst (a0_3.drop i.toNat)) (.lst (a1_3.drop i.toNat))then (.exit 0,mz)else (.ret,mA)):=by
 refine bV (P:=λi=>o.loop 34700 (oJ a0_0 a0_1 a0_2 a0_3 a1_0 a1_1 a1_2 a1_3 i)=some (if bN (.lst (a0_3.drop i.toNat)) (.lst (a1_3.drop i.toNat))then (.exit 0,mz)else (.ret,mA))) (n1:Int) ?_;intro i h0 h1 ih;try dsimp only at ih |-
 refine ho.dO λR Q=> ?_
 have e1:o.len a0_3=n1:=(iI ho _).trans hn;conv=>lhs;cbv;rw[e1];cbv
 rcases aZ ho i n1 with ⟨e2,g2⟩|⟨e2,g2⟩<;>(conv=>lhs;rw[e2];cbv)
 ·subst Q;rw[bf hn (by omega),bf hn2 (by omega),mY rfl];rfl
 ·obtain ⟨x,hx0,hx1,hx2⟩:=ax hn h0 g2;obtain ⟨m',n2,n3,s1,l1,rfl,rfl,hs,hl,ht⟩:=bP (hT _ hx2);have e3:=ak ho h0 hx0;obtain ⟨y,hy0,hy1,hy2⟩:=ax hn2 h0 g2;obtain ⟨m'',n4,n5,s2,l2,rfl,rfl,hs',hl',ht'⟩:=bP (hT2 _ hy2);have e4:=ak ho h0 hy0;conv=>lhs;rw[e3];cbv;rw[e4];cbv
  cases he5:bN (.agg [.int .i64 n2,.int .i64 n3,.str s1,.lst l1]) (.agg [.int .i64 n4,.int .i64 n5,.str s2,.lst l2])<;>(conv=>lhs;rw[IH _ _ _ _ _ _ _ _ _ (hT _ hx2) (hT2 _ hy2),he5];cbv)
  ·subst Q;rw[dV (a:= .lst (a0_3.drop i.toNat)) (λh=>lz he5 (by rw[hx1,hy1]at h;simp only[D.lst.injEq,List.cons.injEq]at h;rw[h.1]))];rfl
  ·obtain ⟨n6,e6,g6⟩:=aW ho i 1;conv=>lhs;rw[e6];cbv
   subst Q;have hq:bN (.lst (a0_3.drop i.toNat)) (.lst (a1_3.drop i.toNat))=bN (.lst (a0_3.drop (i+1).toNat)) (.lst (a1_3.drop (i+1).toNat)):=by
    have h1:=lu he5;cases h2:bN (.lst (a0_3.drop (i+1).toNat)) (.lst (a1_3.drop (i+1).toNat))
    ·exact dV λh=>lz h2 (by rw[hx1,hy1]at h;simp only[D.lst.injEq,List.cons.injEq]at h;rw[h.2])
    ·refine mY ?_;have h3:=lu h2;simp only[D.lst.injEq]at h3;rw[hx1,hy1,h1,h3]
   rw[hq];rw[show n6=i+1 by omega];exact ih (by omega)
end
section
variable {o:aJ} (ho:aR cF bB o)
include ho
theorem Ly (d:Nat) (IH:ST o 66 d) (a0 a1:List D) {m2:Nat} (hT:∀x∈a0,Tm d x) (hT2:∀x∈a1,Tm m2 x) (hl:(a0.length:Int)<=1048576):o.call 151 [Al a0,Al a1,.fn 66 []] []=Ar (Ab (bN (.lst a0) (.lst a1))):=by
 refine ho.aC λR Q=> ?_
 obtain ⟨n1,e1,g1⟩:=ay ho a0;obtain ⟨n2,e2,g2⟩:=ay ho a1;conv=>lhs;cbv;rw[e1];cbv;rw[e2];cbv
 rcases cE ho n1 n2 with ⟨e3,g3⟩|⟨e3,g3⟩<;>(conv=>lhs;rw[e3];cbv)
 ·conv=>lhs;(try (rw[e1];cbv))
  have hl:=Iv ho d IH a0 a1 hT hT2 n1 g1.symm (by omega) (by omega) 0 (Int.le_refl _) (by omega);rw[show (0:Int).toNat=0 from rfl,List.drop_zero,List.drop_zero]at hl;conv at hl=>lhs;cbv
  cases hc:bN (.lst a0) (.lst a1)<;>(conv=>lhs;rw[hl,hc];cbv)
  all_goals
   subst Q;first | rfl | simp only[hc]
 ·subst Q;rw[dV (λh=>by simp only[D.lst.injEq]at h;subst h;omega)];try rfl
theorem ND (d:Nat) (IH:ST o 66 d) {m:Nat} (a0_0 a0_1:Int) (a0_2:ByteArray) (a0_3:List D) (a1_0 a1_1:Int) (a1_2:ByteArray) (a1_3:List D) (hT:Tm (d+1) (.agg [.int .i64 a0_0,.int .i64 a0_1,.str a0_2,.lst a0_3])) (hT2:Tm m (.agg [.int .i64 a1_0,.int .i64 a1_1,.str a1_2,.lst a1_3])):o.call 66 [.agg [.d (.int .i64 a0_0),.d (.int .i64 a0_1),.d (.str a0_2),.d (.lst a0_3)],.agg [.d (.int .i64 a1_0),.d (.int .i64 a1_1),.d (.str a1_2),.d (.lst a1_3)]] []=some ⟨.d (.bool (bN (.agg [.int .i64 a0_0,.int .i64 a0_1,.str a0_2,.lst a0_3]) (.agg [.int .i64 a1_0,.int .i64 a1_1,.str a1_2,.lst a1_3]))),[],[]⟩:=by
 obtain ⟨d',hd,hs,hl,hT⟩:=iC hT;obtain rfl:d=d':=by omega
 obtain ⟨m,rfl,hs2,hl2,hT2⟩:=iC hT2;refine ho.aC λR Q=> ?_
 conv=>lhs;cbv
 rcases aj ho a0_0 a1_0 with ⟨e1,g1⟩|⟨e1,g1⟩<;>(conv=>lhs;rw[e1];cbv)
 ·subst Q;rw[dV (λh=>by simp only[D.agg.injEq,List.cons.injEq,D.int.injEq,D.str.injEq,D.lst.injEq,true_and,and_true]at h;first | exact g1 h.1 | exact g1 h.2.1 | exact g1 h.2.2.1)];try rfl
 ·rcases aj ho a0_1 a1_1 with ⟨e2,g2⟩|⟨e2,g2⟩<;>(conv=>lhs;rw[e2];cbv)
  ·subst Q;rw[dV (λh=>by simp only[D.agg.injEq,List.cons.injEq,D.int.injEq,D.str.injEq,D.lst.injEq,true_and,and_true]at h;first | exact g2 h.1 | exact g2 h.2.1 | exact g2 h.2.2.1)];try rfl
  ·rcases aP ho a0_2 a1_2 with ⟨e3,g3⟩|⟨e3,g3⟩<;>(conv=>lhs;rw[e3];cbv)
   ·subst Q;rw[dV (λh=>by simp only[D.agg.injEq,List.cons.injEq,D.int.injEq,D.str.injEq,D.lst.injEq,true_and,and_true]at h;first | exact g3 h.1 | exact g3 h.2.1 | exact g3 h.2.2.1)];try rfl
   ·obtain ⟨b4,he4⟩:∃b:Bool,bN (.lst a0_3) (.lst a1_3)=b:=⟨_,rfl⟩
    have e4:o.call 151 [.d (.lst a0_3),.d (.lst a1_3),.fn 66 []] []=some ⟨.d (.bool b4),[],[]⟩:=(Ly ho d IH _ _ hT hT2 hl).trans (by rw[he4]);conv=>lhs;rw[e4];cbv
    subst Q;congr 3;subst g1 g2 g3;rw[<-he4];cases hq:bN (.lst a0_3) (.lst a1_3)
    ·exact congrArg D.bool (dV λh=>lz hq (by simp only[D.agg.injEq,List.cons.injEq,D.lst.injEq,true_and,and_true]at h |-;exact h)).symm
    ·exact congrArg D.bool (mY (by have:=lu hq;simp only[D.lst.injEq]at this;rw[this])).symm
theorem NE (d:Nat) (IH:ST o 347 d) {m:Nat} (a0_0 a0_1:Int) (a0_2:ByteArray) (a0_3:List D) (a1_0 a1_1:Int) (a1_2:ByteArray) (a1_3:List D) (hT:Tm (d+1) (.agg [.int .i64 a0_0,.int .i64 a0_1,.str a0_2,.lst a0_3])) (hT2:Tm m (.agg [.int .i64 a1_0,.int .i64 a1_1,.str a1_2,.lst a1_3])):o.call 347 [At a0_0 a0_1 a0_2 a0_3,At a1_0 a1_1 a1_2 a1_3] []=Ar (Ab (bN (.agg [.int .i64 a0_0,.int .i64 a0_1,.str a0_2,.lst a0_3]) (.agg [.int .i64 a1_0,.int .i64 a1_1,.str a1_2,.lst a1_3]))):=by
 obtain ⟨d',hd,hs,hl,hT⟩:=iC hT;obtain rfl:d=d':=by omega
 obtain ⟨m,rfl,hs2,hl2,hT2⟩:=iC hT2;refine ho.aC λR Q=> ?_
 conv=>lhs;cbv
 rcases cE ho a0_0 a1_0 with ⟨e1,g1⟩|⟨e1,g1⟩<;>(conv=>lhs;rw[e1];cbv)
 ·rcases cE ho a0_1 a1_1 with ⟨e2,g2⟩|⟨e2,g2⟩<;>(conv=>lhs;rw[e2];cbv)
  ·rcases qk ho a0_2 a1_2 with ⟨e3,g3⟩|⟨e3,g3⟩<;>(conv=>lhs;rw[e3];cbv)
   ·obtain ⟨n1,e4,g4⟩:=ay ho a0_3;obtain ⟨n2,e5,g5⟩:=ay ho a1_3;conv=>lhs;rw[e4];cbv;rw[e5];cbv
    rcases cE ho n1 n2 with ⟨e6,g6⟩|⟨e6,g6⟩<;>(conv=>lhs;rw[e6];cbv)
    ·have hl:=Iw ho d IH a0_0 a0_1 a0_2 a1_0 a1_1 a1_2 a0_3 a1_3 hT hT2 n1 g4.symm (by omega) (by omega) 0 (Int.le_refl _) (by omega);rw[show (0:Int).toNat=0 from rfl,List.drop_zero,List.drop_zero]at hl;conv at hl=>lhs;cbv
     cases hc:bN (.lst a0_3) (.lst a1_3)<;>(conv=>lhs;rw[hl,hc];cbv)
     ·subst Q;rw[dV λh=>lz hc (by simp only[D.agg.injEq,List.cons.injEq,D.int.injEq,D.str.injEq,D.lst.injEq,true_and,and_true]at h;rw[h.2.2.2])];try rfl
     ·subst Q;rw[mY (by have:=lu hc;simp only[D.lst.injEq]at this;rw[this,g1,g2,g3])];try rfl
    ·subst Q;rw[dV (λh=>by simp only[D.agg.injEq,List.cons.injEq,D.int.injEq,D.str.injEq,D.lst.injEq,true_and,and_true]at h;have:=h.2.2.2;subst this;omega)];try rfl
   ·subst Q;rw[dV (λh=>by simp only[D.agg.injEq,List.cons.injEq,D.int.injEq,D.str.injEq,D.lst.injEq,true_and,and_true]at h;first | exact g3 h.1 | exact g3 h.2.1 | exact g3 h.2.2.1)];try rfl
  ·subst Q;rw[dV (λh=>by simp only[D.agg.injEq,List.cons.injEq,D.int.injEq,D.str.injEq,D.lst.injEq,true_and,and_true]at h;first | exact g2 h.1 | exact g2 h.2.1 | exact g2 h.2.2.1)];try rfl
 ·subst Q;rw[dV (λh=>by simp only[D.agg.injEq,List.cons.injEq,D.int.injEq,D.str.injEq,D.lst.injEq,true_and,and_true]at h;first | exact g1 h.1 | exact g1 h.2.1 | exact g1 h.2.2.1)];try rfl
theorem BA:∀d,ST o 66 d
 | 0=>λ_ _ _ _ _ _ _ _ _ h=>h.elim
 | d+1=>λk n s l k' n' s' l' m h h2=>ND ho d (BA d) k n s l k' n' s' l' h h2
theorem yK:∀d,ST o 347 d
 | 0=>λ_ _ _ _ _ _ _ _ _ h=>h.elim
 | d+1=>λk n s l k' n' s' l' m h h2=>NE ho d (yK d) k n s l k' n' s' l' h h2
omit ho in
def lf:D:= .agg [.int .i64 0,.int .i64 0,.str ⟨#[]⟩,.lst []]
omit ho in
theorem O1:Tm 1 lf:=⟨0,0,⟨#[]⟩,[],rfl,by decide,by decide,λx hx=>by cases hx⟩
theorem vo {m:Nat} (a0_0 a0_1:Int) (a0_2:ByteArray) (a0_3:List D) (hT:Tm m (.agg [.int .i64 a0_0,.int .i64 a0_1,.str a0_2,.lst a0_3])):o.call 285 [At a0_0 a0_1 a0_2 a0_3] []=Ar (Ab (bN (.agg [.int .i64 a0_0,.int .i64 a0_1,.str a0_2,.lst a0_3]) lf)):=by
 refine ho.aC λR Q=> ?_
 obtain ⟨b1,he1⟩:∃b:Bool,bN (.agg [.int .i64 a0_0,.int .i64 a0_1,.str a0_2,.lst a0_3]) (.agg [.int .i64 0,.int .i64 0,.str ⟨#[]⟩,.lst []])=b:=⟨_,rfl⟩
 have e1:o.call 66 [At a0_0 a0_1 a0_2 a0_3,At 0 0 ⟨#[]⟩ []] []=Ar (Ab b1):=(BA ho _ _ _ _ _ _ _ _ _ 1 hT O1).trans (by rw[he1]);conv=>lhs;cbv;rw[e1];cbv
 subst Q;exact (Eq.refl _).trans (by rw[<-he1];rfl)
theorem z7 (a0_0 a0_1:Int) (a0_2:ByteArray) (a0_3:List D):o.call 243 [.agg [.d (.int .i64 a0_0),.d (.int .i64 a0_1),.d (.str a0_2),.d (.lst a0_3)]] []=some ⟨.d (.bool (bN (.agg [.int .i64 a0_0,.int .i64 a0_1,.str a0_2,.lst a0_3]) lf)),[],[]⟩:=by
 refine ho.aC λR Q=> ?_
 conv=>lhs;cbv
 rcases aj ho a0_0 0 with ⟨e1,g1⟩|⟨e1,g1⟩<;>(conv=>lhs;rw[e1];cbv)
 ·subst Q;rw[dV (λh=>by simp only[lf,D.agg.injEq,List.cons.injEq,D.int.injEq,D.str.injEq,D.lst.injEq,true_and,and_true]at h;first | exact g1 h.1 | exact g1 h.2.1 | exact g1 h.2.2.1)];try rfl
 ·rcases aj ho a0_1 0 with ⟨e2,g2⟩|⟨e2,g2⟩<;>(conv=>lhs;rw[e2];cbv)
  ·subst Q;rw[dV (λh=>by simp only[lf,D.agg.injEq,List.cons.injEq,D.int.injEq,D.str.injEq,D.lst.injEq,true_and,and_true]at h;first | exact g2 h.1 | exact g2 h.2.1 | exact g2 h.2.2.1)];try rfl
  ·rcases aP ho a0_2 ⟨#[]⟩with ⟨e3,g3⟩|⟨e3,g3⟩<;>(conv=>lhs;rw[e3];cbv)
   ·subst Q;rw[dV (λh=>by simp only[lf,D.agg.injEq,List.cons.injEq,D.int.injEq,D.str.injEq,D.lst.injEq,true_and,and_true]at h;first | exact g3 h.1 | exact g3 h.2.1 | exact g3 h.2.2.1)];try rfl
   ·obtain ⟨n1,e4,g4⟩:=ay ho a0_3;obtain ⟨b4,e5⟩:=kx (o.cmp .eql n1 0);conv=>lhs;rw[e4];cbv;rw[e5];cbv
    subst Q;congr 3;subst g1 g2 g3;rw[<-e5];cases hq:o.cmp .eql n1 0
    ·have:=k_ ho hq;exact congrArg D.bool (dV λh=>by simp only[lf,D.agg.injEq,List.cons.injEq,D.lst.injEq,true_and,and_true]at h;subst h;exact this g4).symm
    ·have:=Mq ho hq;exact congrArg D.bool (mY (by rw[List.length_eq_zero_iff.1 (by omega:a0_3.length=0)];rfl)).symm
end
mutual
def oK:D->D
 | .lst l=> .own (31,4) (bQ l)
 | .agg l=> .agg (bQ l)
 | .int k n=> .int k n
 | .bool b=> .bool b
 | .str s=> .str s
 | .own z l=> .own z l
def bQ:List D->List D
 | []=>[]
 | x::l=>oK x::bQ l
end
theorem gh:∀l:List D,bQ l=l.map oK
 | []=>rfl
 | x::l=>by simp only[bQ,List.map_cons,gh l]
theorem gR (l:List D):(bQ l).length=l.length:=by rw[gh,List.length_map]
theorem z_ (a b:List D):bQ (a++b)=bQ a++bQ b:=by simp only[gh,List.map_append]
theorem qu {l:List D} (h:∀x∈l,bn (oK x)=x):aT (bQ l)=l:=by
 rw[eG,gh,List.map_map];exact (List.map_congr_left (f:=bn∘oK) (g:=id) λx hx=>h x hx).trans (List.map_id l)
theorem xG:∀{n:Nat} {x:D},Tm n x->bn (oK x)=x
 | 0,_,h=>h.elim
 | n+1,x,h=>by
  obtain ⟨m,k,c,s,l,hm,rfl,_,_,hl⟩:=bP h;obtain rfl:n=m:=by omega
  simp only[oK,bQ,bn,aT];rw[qu λx hx=>xG (hl x hx)]
theorem pE {n:Nat} {l:List D} (h:∀x∈l,Tm n x):aT (bQ l)=l:=qu λx hx=>xG (h x hx)
theorem DM {n:Nat} {x:D} (h:Tm n x):(oK x).cells.length=4:=by obtain ⟨m,k,c,s,l,_,rfl,_⟩:=bP h;rfl
theorem BF {n:Nat} {l:List D} (h:∀x∈l,Tm n x):∀z∈bQ l,z.cells.length=4:=by
 intro z hz;rw[gh]at hz;obtain ⟨x,hx,rfl⟩:=List.mem_map.1 hz;exact DM (h x hx)
theorem eU {o:aJ} {n:Nat} {d:D} (h:Rt o n d):d.cells.length=4:=by obtain ⟨m,k,c,s,l,_,rfl,_⟩:=gb h;rfl
theorem rp {n:Nat} {d:D} (h:Tm n d):d.cells.length=4:=by obtain ⟨m,k,c,s,l,_,rfl,_⟩:=bP h;rfl
def OI (o:aJ) (d:Nat):Prop:=∀k n s l,Tm d (.agg [.int .i64 k,.int .i64 n,.str s,.lst l])->o.call 105 [.agg [.d (.int .i64 k),.d (.int .i64 n),.d (.str s),.d (.lst l)]] []=some ⟨.agg [.d (.int .i64 k),.d (.int .i64 n),.d (.str s),.arr (0,0) (31,4) none false],[],[some (.orows (31,4) (bQ l))]⟩
def O4 (o:aJ) (d:Nat):Prop:=∀k n s l,Tm d (.agg [.int .i64 k,.int .i64 n,.str s,.lst l])->o.call 202 [.agg [.d (.int .i64 k),.d (.int .i64 n),.d (.str s),.d (.lst l)]] []=some ⟨.agg [.d (.int .i64 k),.d (.int .i64 n),.d (.str s),.d (.lst l)],[],[]⟩
theorem m9 {xs:List D} {i:Int} {x:D} (h0:0<=i) (hx:xs[i.toNat]? =some x):xs.take (i+1).toNat=xs.take i.toNat++[x]:=by
 rw[show (i+1).toNat=i.toNat+1 by omega,List.take_add_one,hx];rfl
section
variable {o:aJ} (ho:aR cF bB o)
include ho
def jO (a0:List D) (n1 i:Int) (y:List D):St:=⟨E 19 [(3,.arr (16,0) (31,4) none false),(6,Al a0),(7,Ai n1),(8,Ai i)],O 19 [(16,[Oq y])]⟩
def fW (y:List D):St:=⟨E 19 [(3,.arr (16,0) (31,4) none false)],O 19 [(16,[Oq y])]⟩
def m_ (a0_0 a0_1:Int) (a0_2:ByteArray) (a0_3:List D) (i:Int) (y:List D):St:=⟨E 27 [(1,.sp [.int .i64 a0_0,.int .i64 a0_1,.str a0_2,.lst a0_3] 0),(2,.ptr (2,0) 0),(3,.ptr (3,0) 0),(4,Ai i)],O 27 [(2,[some (.box [Ai 0,Ai 0,As ⟨#[]⟩,.emp])]),(3,[some (.box [Ai a0_0,Ai a0_1,As a0_2,.arr (24,0) (31,4) none false])]),(24,[Os y])]⟩
def iX (a0_0 a0_1:Int) (a0_2:ByteArray) (y:List D):St:=⟨E 27 [(2,.ptr (2,0) 0),(3,.ptr (3,0) 0)],O 27 [(2,[some (.box [Ai 0,Ai 0,As ⟨#[]⟩,.emp])]),(3,[some (.box [Ai a0_0,Ai a0_1,As a0_2,.arr (24,0) (31,4) none false])]),(24,[Os y])]⟩
theorem NJ (d:Nat) (IH:OI o d) (a0:List D) (hT:∀x∈a0,Tm d x) (n1:Int) (hn:(a0.length:Int)=n1) (hl:n1<=1048576):∀i:Int,0<=i->i<=(n1:Int)->∀y:List D,y=bQ (a0.take i.toNat)->o.loop 19300 (jO a0 n1 i y)=some (.exit 0,fW (bQ a0)):=by
 refine bV (P:=λi=>∀y:List D,y=bQ (a0.take i.toNat)->o.loop 19300 (jO a0 n1 i y)=some (.exit 0,fW (bQ a0))) (n1:Int) ?_;intro i h0 h1 ih;try dsimp only at ih |-
 intro y hy;refine ho.dO λR Q=> ?_
 conv=>lhs;cbv
 rcases aZ ho i n1 with ⟨e1,g1⟩|⟨e1,g1⟩<;>(conv=>lhs;rw[e1];cbv)
 ·subst Q;show some (Out.exit 0,fW y)=_;rw[hy,List.take_of_length_le (by omega)]
 ·obtain ⟨x,hx0,hx1,hx2⟩:=ax hn h0 g1;obtain ⟨m',n2,n3,s1,l1,hd',rfl,hs,hl,ht⟩:=bP (hT _ hx2);have e2:=ak ho h0 hx0;obtain ⟨l2,hw,e3⟩:∃z,z=bQ l1/\o.call 105 [At n2 n3 s1 l1] []=some ⟨.agg [Ai n2,Ai n3,As s1,.arr (0,0) (31,4) none false],[],[Oq z]⟩:=⟨_,rfl,IH _ _ _ _ (hT _ hx2)⟩
  obtain ⟨l3,he4⟩:∃z,z=bQ (a0.take (i+1).toNat):=⟨_,rfl⟩
  have e4:o.app y [.agg [.int .i64 n2,.int .i64 n3,.str s1,.own (31,4) l2]]=l3:=(ho.app _ _).trans (by rw[hy,hw,he4,m9 h0 hx0,z_];rfl);have e5:o.fits 4 56 l3=true:=by exact cn ho (by rw[he4,gR,List.length_take];omega) (by decide) (by rw[he4];exact BF λz hz=>hT z (List.mem_of_mem_take hz))
  obtain ⟨n4,e6,g6⟩:=aW ho i 1;conv=>lhs;rw[e2];cbv;rw[e3];cbv;rw[e4];cbv;rw[e5];cbv;rw[e6];cbv
  subst Q;rw[show n4=i+1 by omega];exact ih (by omega) _ he4
theorem ng (d:Nat) (IH:OI o d) (a0:List D) (hT:∀x∈a0,Tm d x) (hl:(a0.length:Int)<=1048576):o.call 193 [Al a0] []=some ⟨.arr (0,0) (31,4) none false,[],[Oq (bQ a0)]⟩:=by
 refine ho.aC λR Q=> ?_
 obtain ⟨n1,e1,g1⟩:=ay ho a0;conv=>lhs;cbv;rw[e1];cbv
 obtain ⟨l1,hw,e2⟩:∃z,z=bQ a0/\o.loop 19300 (jO a0 n1 0 [])=some (.exit 0,fW z):=⟨_,rfl,NJ ho d IH a0 hT n1 g1.symm (by omega) 0 (Int.le_refl _) (by omega) [] rfl⟩
 conv at e2=>lhs;cbv
 conv=>lhs;rw[e2];cbv
 subst Q;rw[<-hw];try rfl
theorem DN (d:Nat) (IH:OI o d) (a0_0 a0_1:Int) (a0_2:ByteArray) (a0_3:List D) (hT:Tm (d+1) (.agg [.int .i64 a0_0,.int .i64 a0_1,.str a0_2,.lst a0_3])):o.call 105 [At a0_0 a0_1 a0_2 a0_3] []=some ⟨.agg [Ai a0_0,Ai a0_1,As a0_2,.arr (0,0) (31,4) none false],[],[Oq (bQ a0_3)]⟩:=by
 obtain ⟨d',hd,hs,hl,hT⟩:=iC hT;obtain rfl:d=d':=by omega
 refine ho.aC λR Q=> ?_
 obtain ⟨l1,hw,e1⟩:∃z,z=bQ a0_3/\o.call 193 [Al a0_3] []=some ⟨.arr (0,0) (31,4) none false,[],[Oq z]⟩:=⟨_,rfl,ng ho d IH a0_3 hT hl⟩
 conv=>lhs;cbv;rw[e1];cbv
 subst Q;rw[<-hw];try rfl
theorem II (d:Nat) (IH:O4 o d) (a0_0 a0_1:Int) (a0_2:ByteArray) (a0_3:List D) (hT:∀x∈a0_3,Tm d x) (n1:Int) (hn:(a0_3.length:Int)=n1) (hl:n1<=1048576):∀i:Int,0<=i->i<=(n1:Int)->∀y:List D,y=a0_3.take i.toNat->o.loop 20200 (m_ a0_0 a0_1 a0_2 a0_3 i y)=some (.exit 0,iX a0_0 a0_1 a0_2 a0_3):=by
 refine bV (P:=λi=>∀y:List D,y=a0_3.take i.toNat->o.loop 20200 (m_ a0_0 a0_1 a0_2 a0_3 i y)=some (.exit 0,iX a0_0 a0_1 a0_2 a0_3)) (n1:Int) ?_;intro i h0 h1 ih;try dsimp only at ih |-
 intro y hy;refine ho.dO λR Q=> ?_
 have e1:o.len a0_3=n1:=(iI ho _).trans hn;conv=>lhs;cbv;rw[e1];cbv
 rcases aZ ho i n1 with ⟨e2,g2⟩|⟨e2,g2⟩<;>(conv=>lhs;rw[e2];cbv)
 ·subst Q;show some (Out.exit 0,iX a0_0 a0_1 a0_2 y)=_;rw[hy,List.take_of_length_le (by omega)]
 ·obtain ⟨x,hx0,hx1,hx2⟩:=ax hn h0 g2;obtain ⟨m',n2,n3,s1,l1,hd',rfl,hs,hl,ht⟩:=bP (hT _ hx2);have e3:=ak ho h0 hx0;have e4:o.call 202 [At n2 n3 s1 l1] []=Ar (At n2 n3 s1 l1):=IH _ _ _ _ (hT _ hx2);obtain ⟨l2,he4⟩:∃l2,l2=a0_3.take (i+1).toNat:=⟨_,rfl⟩
  have e5:o.app y [.agg [.int .i64 n2,.int .i64 n3,.str s1,.lst l1]]=l2:=(ho.app _ _).trans (by rw[hy];exact (m9 h0 hx0).symm.trans he4.symm);have e6:o.fits 4 56 l2=true:=by exact cn ho (by rw[he4,List.length_take];omega) (by decide) (λz hz=>rp (hT z (by rw[he4]at hz;exact List.mem_of_mem_take hz)))
  obtain ⟨n4,e7,g7⟩:=aW ho i 1;conv=>lhs;rw[e3];cbv;rw[e4];cbv;rw[e5];cbv;rw[e6];cbv;rw[e7];cbv
  subst Q;rw[show n4=i+1 by omega];exact ih (by omega) l2 he4
theorem IJ (d:Nat) (IH:O4 o d) (a0_0 a0_1:Int) (a0_2:ByteArray) (a0_3:List D) (hT:Tm (d+1) (.agg [.int .i64 a0_0,.int .i64 a0_1,.str a0_2,.lst a0_3])):o.call 202 [At a0_0 a0_1 a0_2 a0_3] []=Ar (At a0_0 a0_1 a0_2 a0_3):=by
 obtain ⟨d',hd,hs,hl,hT⟩:=iC hT;obtain rfl:d=d':=by omega
 refine ho.aC λR Q=> ?_
 conv=>lhs;cbv
 obtain ⟨l1,hl1,e1⟩:∃l1,a0_3=l1/\o.loop 20200 (m_ a0_0 a0_1 a0_2 a0_3 0 [])=some (.exit 0,iX a0_0 a0_1 a0_2 l1):=⟨_,rfl,II ho d IH a0_0 a0_1 a0_2 a0_3 hT _ rfl hl 0 (Int.le_refl _) (by omega) [] rfl⟩
 conv at e1=>lhs;cbv
 conv=>lhs;rw[e1];cbv
 subst Q;rw[hl1]
theorem mB:∀d,OI o d
 | 0=>λ_ _ _ _ h=>h.elim
 | d+1=>λk n s l h=>DN ho d (mB d) k n s l h
theorem pF:∀d,O4 o d
 | 0=>λ_ _ _ _ h=>h.elim
 | d+1=>λk n s l h=>IJ ho d (pF d) k n s l h
end
end T2
