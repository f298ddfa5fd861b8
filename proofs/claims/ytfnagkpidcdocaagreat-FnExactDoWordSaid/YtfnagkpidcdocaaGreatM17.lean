import Derived.Test.YtfnagkpidcdocaaGreatM14
import Derived.Test.YtfnagkpidcdocaaGreatM16
set_option linter.all false
namespace T2
open Go Go.Vi
set_option maxRecDepth 100000
set_option maxHeartbeats 4000000
def sm (c:Int):Bool:=jx c 97 122
def fg (c:Int):Bool:=jx c 48 57
section
variable {o:aM} (ho:aQ cu bw o)
include ho
theorem aD (e j a2:Int):o.call 89 [Ai e,Ai j,Ai a2] []=Ar (Ab (jx e j a2)):=by
 refine ho.aL λR Q=> ?_
 conv=>lhs;cbv
 rcases jc ho e j with ⟨E,g1⟩|⟨E,g1⟩<;>(conv=>lhs;rw[E];cbv)
 ·subst Q;first | rw[kJ (by omega)] | rw[fN (by omega)]
 rcases iz ho e a2 with ⟨I,g2⟩|⟨I,g2⟩<;>(conv=>lhs;rw[I];cbv)
 all_goals
  subst Q;first | rw[kJ (by omega)] | rw[fN (by omega)]
theorem aJ (e j a2:Int):o.call 83 [Ai e,Ai j,Ai a2] []=Ar (Ab (jx e j a2)):=by
 refine ho.aL λR Q=> ?_
 conv=>lhs;cbv
 rcases jc ho e j with ⟨E,g1⟩|⟨E,g1⟩<;>(conv=>lhs;rw[E];cbv)
 ·subst Q;first | rw[kJ (by omega)] | rw[fN (by omega)]
 rcases iz ho e a2 with ⟨I,g2⟩|⟨I,g2⟩<;>(conv=>lhs;rw[I];cbv)
 all_goals
  subst Q;first | rw[kJ (by omega)] | rw[fN (by omega)]
theorem Fk (e:Int):o.call 270 [.d (.int .u8 e)] []=Ar (Ab (sm e)):=by
 refine ho.aL λR Q=> ?_
 conv=>lhs;cbv
 rcases jc ho e 97 with ⟨j,g1⟩|⟨j,g1⟩<;>(conv=>lhs;rw[j];cbv)
 ·subst Q;first | rw[sm,kJ (by omega)] | rw[sm,fN (by omega)] | rw[fg,kJ (by omega)] | rw[fg,fN (by omega)]
 rcases iz ho e 122 with ⟨E,g2⟩|⟨E,g2⟩<;>(conv=>lhs;rw[E];cbv)
 all_goals
  subst Q;first | rw[sm,kJ (by omega)] | rw[sm,fN (by omega)] | rw[fg,kJ (by omega)] | rw[fg,fN (by omega)]
theorem CR (e:Int):o.call 271 [.d (.int .u8 e)] []=Ar (Ab (fg e)):=by
 refine ho.aL λR Q=> ?_
 conv=>lhs;cbv
 rcases jc ho e 48 with ⟨j,g1⟩|⟨j,g1⟩<;>(conv=>lhs;rw[j];cbv)
 ·subst Q;first | rw[sm,kJ (by omega)] | rw[sm,fN (by omega)] | rw[fg,kJ (by omega)] | rw[fg,fN (by omega)]
 rcases iz ho e 57 with ⟨E,g2⟩|⟨E,g2⟩<;>(conv=>lhs;rw[E];cbv)
 all_goals
  subst Q;first | rw[sm,kJ (by omega)] | rw[sm,fN (by omega)] | rw[fg,kJ (by omega)] | rw[fg,fN (by omega)]
omit ho in
def CS (o:aM) (s:By) (i:Int):Bool:=match o.BS s i with | some c=>sm c || (i !=0&&(fg c || c==95)) | none=>false
omit ho in
def vY (o:aM) (s:By):Bool:=fR (CS o s) 0 s.size&&jx s.size 1 20
def r_ (e:By) (i:Int):St:=⟨E 35 [(0,As e),(3,Ai i)],O 35 []⟩
def oZ (e:By):St:=⟨E 35 [(0,As e)],O 35 []⟩
def o_ (e:By):St:=⟨E 35 [(0,As e),(2,Ab false)],O 35 []⟩
def si (e:By) (i:Int):St:=⟨E 36 [(0,As e),(3,Ai i)],O 36 []⟩
def pq (e:By):St:=⟨E 36 [(0,As e)],O 36 []⟩
def pu (e:By):St:=⟨E 36 [(0,As e),(2,Ab false)],O 36 []⟩
theorem D9 (e:By) (ha:(e.size:Int)<=9000000000000000000):∀i:Int,0<=i->i<=(e.size:Int)->o.loop 17300 (r_ e i)=some (if fR (CS o e) i e.size then (.exit 0,oZ e)else (.ret,o_ e)):=by
 refine cM (P:=λi=>o.loop 17300 (r_ e i)=some (if fR (CS o e) i e.size then (.exit 0,oZ e)else (.ret,o_ e))) (e.size:Int) ?_;intro i h0 h1 E;try dsimp only at E |-
 refine ho.fA λR Q=> ?_
 obtain ⟨n1,e1,g1⟩:=Bd ho e;conv=>lhs;cbv;rw[e1];cbv
 rcases bn ho i n1 with ⟨M,g2⟩|⟨M,g2⟩<;>(conv=>lhs;rw[M];cbv)
 ·subst Q;rw[jb (by omega)];rfl
 obtain ⟨n2,j⟩:∃(n2:Int),o.BS e i=some n2:=⟨_,by first | assumption | exact Kk ho (by omega) (by omega)⟩
 conv=>lhs;rw[j];cbv
 cases O:sm n2
 ·conv=>lhs;rw[Fk ho,O];cbv
  rcases av ho i 0 with ⟨I,S⟩|⟨I,S⟩<;>(conv=>lhs;rw[I];cbv)
  ·conv=>lhs;(try (rw[j];cbv))
   cases U:fg n2
   ·conv=>lhs;rw[CR ho,U];cbv;(try (rw[j];cbv))
    rcases cD ho n2 95 with ⟨J,V⟩|⟨J,V⟩<;>(conv=>lhs;rw[J];cbv)
    ·obtain ⟨n3,a1,a3⟩:=bk ho i 1;conv=>lhs;rw[a1];cbv
     subst Q;rw[mO (by omega) (by unfold CS;rw[j];simp[*])];rw[show n3=i+1 by omega];exact E (by omega)
    subst Q;rw[nT (by omega) (by unfold CS;rw[j];simp[*])];rfl
   obtain ⟨n3,J,V⟩:=bk ho i 1;conv=>lhs;rw[CR ho,U];cbv;rw[J];cbv
   subst Q;rw[mO (by omega) (by unfold CS;rw[j];simp[*])];rw[show n3=i+1 by omega];exact E (by omega)
  subst Q;rw[nT (by omega) (by unfold CS;rw[j];simp[*])];rfl
 obtain ⟨n3,I,S⟩:=bk ho i 1;conv=>lhs;rw[Fk ho,O];cbv;rw[I];cbv
 subst Q;rw[mO (by omega) (by unfold CS;rw[j];simp[*])];rw[show n3=i+1 by omega];exact E (by omega)
theorem mP (e:By) (j:(e.size:Int)<=9000000000000000000):o.call 173 [As e] []=Ar (Ab (vY o e)):=by
 have hl:=D9 ho e j 0 (Int.le_refl _) (by omega);refine ho.aL λR Q=> ?_
 conv=>lhs;cbv
 conv at hl=>lhs;cbv
 cases hc:fR (CS o e) 0 e.size<;>(conv=>lhs;rw[hl,hc];cbv)
 ·subst Q;try rw[hc]
  simp_all [vY]
 obtain ⟨n1,E,g2⟩:=Bd ho e;obtain ⟨J,I⟩:=kx (jx n1 1 20);conv=>lhs;rw[E];cbv;rw[aD ho,I];cbv
 subst Q;try rw[hc]
 simp_all [vY]
theorem D_ (e:By) (ha:(e.size:Int)<=9000000000000000000):∀i:Int,0<=i->i<=(e.size:Int)->o.loop 20400 (si e i)=some (if fR (CS o e) i e.size then (.exit 0,pq e)else (.ret,pu e)):=by
 refine cM (P:=λi=>o.loop 20400 (si e i)=some (if fR (CS o e) i e.size then (.exit 0,pq e)else (.ret,pu e))) (e.size:Int) ?_;intro i h0 h1 I;try dsimp only at I |-
 refine ho.fA λR Q=> ?_
 obtain ⟨n1,e1,g1⟩:=Bd ho e;conv=>lhs;cbv;rw[e1];cbv
 rcases bn ho i n1 with ⟨U,g2⟩|⟨U,g2⟩<;>(conv=>lhs;rw[U];cbv)
 ·subst Q;rw[jb (by omega)];rfl
 obtain ⟨n2,j⟩:∃(n2:Int),o.BS e i=some n2:=⟨_,by first | assumption | exact Kk ho (by omega) (by omega)⟩
 obtain ⟨n3,V⟩:∃n3,o.wrap .i64 n2=n3:=⟨_,rfl⟩
 obtain rfl:n3=n2:=V.symm.trans (Mx ho (Qb ho j));conv=>lhs;rw[j];cbv;rw[V];cbv
 rcases aX n3 97 122 with ⟨O,g5⟩|⟨O,g5⟩
 ·conv=>lhs;rw[aJ ho,O];cbv
  rcases av ho i 0 with ⟨J,g7⟩|⟨J,g7⟩<;>(conv=>lhs;rw[J];cbv)
  ·rcases aX n3 48 57 with ⟨S,g8⟩|⟨S,g8⟩
   ·conv=>lhs;rw[aJ ho,S];cbv
    rcases cD ho n3 95 with ⟨E,M⟩|⟨E,M⟩<;>(conv=>lhs;rw[E];cbv)
    ·obtain ⟨n4,a1,a3⟩:=bk ho i 1;conv=>lhs;rw[a1];cbv
     subst Q;rw[mO (by omega) (by unfold CS;rw[j];simp[sm,fg, *])];rw[show n4=i+1 by omega];exact I (by omega)
    subst Q;rw[nT (by omega) (by unfold CS;rw[j];simp[sm,fg, *])];rfl
   obtain ⟨n4,E,M⟩:=bk ho i 1;conv=>lhs;rw[aJ ho,S];cbv;rw[E];cbv
   subst Q;rw[mO (by omega) (by unfold CS;rw[j];simp[sm,fg, *])];rw[show n4=i+1 by omega];exact I (by omega)
  subst Q;rw[nT (by omega) (by unfold CS;rw[j];simp[sm,fg, *])];rfl
 obtain ⟨n4,J,g7⟩:=bk ho i 1;conv=>lhs;rw[aJ ho,O];cbv;rw[J];cbv
 subst Q;rw[mO (by omega) (by unfold CS;rw[j];simp[sm,fg, *])];rw[show n4=i+1 by omega];exact I (by omega)
theorem mQ (e:By) (j:(e.size:Int)<=9000000000000000000):o.call 204 [As e] []=Ar (Ab (vY o e)):=by
 have hl:=D_ ho e j 0 (Int.le_refl _) (by omega);refine ho.aL λR Q=> ?_
 conv=>lhs;cbv
 conv at hl=>lhs;cbv
 cases hc:fR (CS o e) 0 e.size<;>(conv=>lhs;rw[hl,hc];cbv)
 ·subst Q;try rw[hc]
  simp_all [vY]
 obtain ⟨n1,E,g2⟩:=Bd ho e;obtain ⟨J,I⟩:=kx (jx n1 1 20);conv=>lhs;rw[E];cbv;rw[aJ ho,I];cbv
 subst Q;try rw[hc]
 simp_all [vY]
end
def jw (o:aM) (k n:Int) (s:By) (l:Lq):Bool:=
 if k=1 then jx n (-1000000000000) 1000000000000&&decide (s=⟨#[]⟩)&&decide ((l.length:Int)=0)
 else if k=2 then vY o s&&decide (n=0)&&decide ((l.length:Int)=0)
 else if k=3 then jx n 0 1000000&&decide (s=⟨#[]⟩)&&decide ((l.length:Int)=0)
 else if k=4 then decide (n=0)&&decide (s=⟨#[]⟩)&&decide ((l.length:Int)<=20)
 else if k=5 then decide (n=0)&&decide (s=⟨#[]⟩)&&decide ((l.length:Int)<=60)
 else false
def Tm:Nat->D->Prop
 | 0,_=>False
 | n+1,d=>∃k m s l,d= .agg [.int .i64 k,.int .i64 m,.str s,.lst l]/\(s.size:Int)<=1048576/\(l.length:Int)<=1048576/\∀x∈l,Tm n x
section
variable {o:aM} (ho:aQ cu bw o)
include ho
theorem Nw (a0_0 a0_1:Int) (e:By) (j:Lq) (ha:(e.size:Int)<=9000000000000000000):o.call 249 [At a0_0 a0_1 e j] []=Ar (Ab (jw o a0_0 a0_1 e j)):=by
 refine ho.aL λR Q=> ?_
 conv=>lhs;cbv
 rcases av ho a0_0 1 with ⟨e1,g1⟩|⟨e1,g1⟩<;>(conv=>lhs;rw[e1];cbv)
 ·rcases av ho a0_0 2 with ⟨U,g2⟩|⟨U,g2⟩<;>(conv=>lhs;rw[U];cbv)
  ·rcases av ho a0_0 3 with ⟨V,g3⟩|⟨V,g3⟩<;>(conv=>lhs;rw[V];cbv)
   ·rcases av ho a0_0 4 with ⟨I,g4⟩|⟨I,g4⟩<;>(conv=>lhs;rw[I];cbv)
    ·rcases av ho a0_0 5 with ⟨O,g5⟩|⟨O,g5⟩<;>(conv=>lhs;rw[O];cbv)
     ·subst Q;subst_vars;simp_all [jw]
     rcases av ho a0_1 0 with ⟨E,M⟩|⟨E,M⟩<;>(conv=>lhs;rw[E];cbv)
     ·subst Q;subst_vars;simp_all [jw]
     rcases aR ho e ⟨#[]⟩with ⟨J,g7⟩|⟨J,g7⟩<;>(conv=>lhs;rw[J];cbv)
     ·subst Q;subst_vars;simp_all [jw]
     obtain ⟨n1,S,g8⟩:=aC ho j;conv=>lhs;rw[S];cbv
     rcases iz ho n1 60 with ⟨e9,g9⟩|⟨e9,g9⟩<;>(conv=>lhs;rw[e9];cbv)
     all_goals
      subst Q;subst_vars;simp_all [jw]
    rcases av ho a0_1 0 with ⟨O,g5⟩|⟨O,g5⟩<;>(conv=>lhs;rw[O];cbv)
    ·subst Q;subst_vars;simp_all [jw]
    rcases aR ho e ⟨#[]⟩with ⟨E,M⟩|⟨E,M⟩<;>(conv=>lhs;rw[E];cbv)
    ·subst Q;subst_vars;simp_all [jw]
    obtain ⟨n1,J,g7⟩:=aC ho j;conv=>lhs;rw[J];cbv
    rcases iz ho n1 20 with ⟨S,g8⟩|⟨S,g8⟩<;>(conv=>lhs;rw[S];cbv)
    all_goals
     subst Q;subst_vars;simp_all [jw]
   rcases aX a0_1 0 1000000 with ⟨I,g4⟩|⟨I,g4⟩
   ·conv=>lhs;rw[aD ho,I];cbv
    subst Q;subst_vars;simp_all [jw]
   conv=>lhs;rw[aD ho,I];cbv
   rcases aR ho e ⟨#[]⟩with ⟨E,M⟩|⟨E,M⟩<;>(conv=>lhs;rw[E];cbv)
   ·subst Q;subst_vars;simp_all [jw]
   obtain ⟨n1,J,g7⟩:=aC ho j;conv=>lhs;rw[J];cbv
   rcases av ho n1 0 with ⟨S,g8⟩|⟨S,g8⟩<;>(conv=>lhs;rw[S];cbv)
   all_goals
    subst Q;subst_vars;simp_all [jw]
  rcases av ho a0_1 0 with ⟨V,g3⟩|⟨V,g3⟩<;>(conv=>lhs;rw[V];cbv)
  ·subst Q;subst_vars;simp_all [jw]
  cases I:vY o e
  ·conv=>lhs;rw[mP ho e (by omega),I];cbv
   subst Q;subst_vars;simp_all [jw]
  obtain ⟨n1,E,M⟩:=aC ho j;conv=>lhs;rw[mP ho e (by omega),I];cbv;rw[E];cbv
  rcases av ho n1 0 with ⟨J,g7⟩|⟨J,g7⟩<;>(conv=>lhs;rw[J];cbv)
  all_goals
   subst Q;subst_vars;simp_all [jw]
 rcases aX a0_1 (-1000000000000) 1000000000000 with ⟨U,g2⟩|⟨U,g2⟩
 ·conv=>lhs;rw[aD ho,U];cbv
  subst Q;subst_vars;simp_all [jw]
 conv=>lhs;rw[aD ho,U];cbv
 rcases aR ho e ⟨#[]⟩with ⟨I,g4⟩|⟨I,g4⟩<;>(conv=>lhs;rw[I];cbv)
 ·subst Q;subst_vars;simp_all [jw]
 obtain ⟨n1,O,g5⟩:=aC ho j;conv=>lhs;rw[O];cbv
 rcases av ho n1 0 with ⟨E,M⟩|⟨E,M⟩<;>(conv=>lhs;rw[E];cbv)
 all_goals
  subst Q;subst_vars;simp_all [jw]
theorem Nx (a0_0 a0_1:Int) (e:By) (j:Lq) (ha:(e.size:Int)<=9000000000000000000):o.call 320 [At a0_0 a0_1 e j] []=Ar (Ab (jw o a0_0 a0_1 e j)):=by
 refine ho.aL λR Q=> ?_
 conv=>lhs;cbv
 rcases av ho a0_0 1 with ⟨e1,g1⟩|⟨e1,g1⟩<;>(conv=>lhs;rw[e1];cbv)
 ·rcases av ho a0_0 2 with ⟨U,g2⟩|⟨U,g2⟩<;>(conv=>lhs;rw[U];cbv)
  ·rcases av ho a0_0 3 with ⟨e3,g3⟩|⟨e3,g3⟩<;>(conv=>lhs;rw[e3];cbv)
   ·rcases av ho a0_0 4 with ⟨J,g4⟩|⟨J,g4⟩<;>(conv=>lhs;rw[J];cbv)
    ·rcases av ho a0_0 5 with ⟨I,V⟩|⟨I,V⟩<;>(conv=>lhs;rw[I];cbv)
     ·subst Q;subst_vars;simp_all [jw]
     rcases av ho a0_1 0 with ⟨E,O⟩|⟨E,O⟩<;>(conv=>lhs;rw[E];cbv)
     ·subst Q;subst_vars;simp_all [jw]
     rcases aR ho e ⟨#[]⟩with ⟨M,g7⟩|⟨M,g7⟩<;>(conv=>lhs;rw[M];cbv)
     ·subst Q;subst_vars;simp_all [jw]
     obtain ⟨n1,S,g8⟩:=aC ho j;conv=>lhs;rw[S];cbv
     rcases iz ho n1 60 with ⟨e9,g9⟩|⟨e9,g9⟩<;>(conv=>lhs;rw[e9];cbv)
     all_goals
      subst Q;subst_vars;simp_all [jw]
    rcases av ho a0_1 0 with ⟨I,V⟩|⟨I,V⟩<;>(conv=>lhs;rw[I];cbv)
    ·subst Q;subst_vars;simp_all [jw]
    rcases aR ho e ⟨#[]⟩with ⟨E,O⟩|⟨E,O⟩<;>(conv=>lhs;rw[E];cbv)
    ·subst Q;subst_vars;simp_all [jw]
    obtain ⟨n1,M,g7⟩:=aC ho j;conv=>lhs;rw[M];cbv
    rcases iz ho n1 20 with ⟨S,g8⟩|⟨S,g8⟩<;>(conv=>lhs;rw[S];cbv)
    all_goals
     subst Q;subst_vars;simp_all [jw]
   rcases aX a0_1 0 1000000 with ⟨J,g4⟩|⟨J,g4⟩
   ·conv=>lhs;rw[aJ ho,J];cbv
    subst Q;subst_vars;simp_all [jw]
   conv=>lhs;rw[aJ ho,J];cbv
   rcases aR ho e ⟨#[]⟩with ⟨E,O⟩|⟨E,O⟩<;>(conv=>lhs;rw[E];cbv)
   ·subst Q;subst_vars;simp_all [jw]
   obtain ⟨n1,M,g7⟩:=aC ho j;conv=>lhs;rw[M];cbv
   rcases av ho n1 0 with ⟨S,g8⟩|⟨S,g8⟩<;>(conv=>lhs;rw[S];cbv)
   all_goals
    subst Q;subst_vars;simp_all [jw]
  cases e3:vY o e
  ·conv=>lhs;rw[mQ ho e (by omega),e3];cbv
   subst Q;subst_vars;simp_all [jw]
  conv=>lhs;rw[mQ ho e (by omega),e3];cbv
  rcases av ho a0_1 0 with ⟨I,V⟩|⟨I,V⟩<;>(conv=>lhs;rw[I];cbv)
  ·subst Q;subst_vars;simp_all [jw]
  obtain ⟨n1,E,O⟩:=aC ho j;conv=>lhs;rw[E];cbv
  rcases av ho n1 0 with ⟨M,g7⟩|⟨M,g7⟩<;>(conv=>lhs;rw[M];cbv)
  all_goals
   subst Q;subst_vars;simp_all [jw]
 rcases aX a0_1 (-1000000000000) 1000000000000 with ⟨U,g2⟩|⟨U,g2⟩
 ·conv=>lhs;rw[aJ ho,U];cbv
  subst Q;subst_vars;simp_all [jw]
 conv=>lhs;rw[aJ ho,U];cbv
 rcases aR ho e ⟨#[]⟩with ⟨J,g4⟩|⟨J,g4⟩<;>(conv=>lhs;rw[J];cbv)
 ·subst Q;subst_vars;simp_all [jw]
 obtain ⟨n1,I,V⟩:=aC ho j;conv=>lhs;rw[I];cbv
 rcases av ho n1 0 with ⟨E,O⟩|⟨E,O⟩<;>(conv=>lhs;rw[E];cbv)
 all_goals
  subst Q;subst_vars;simp_all [jw]
end
def ku (o:aM):Nat->D->Int
 | d+1,.agg [.int _ k,.int _ n,.str s,.lst l]=>if jw o k n s l then (if 1+bT (ku o d) l<=300 then 1+bT (ku o d) l else 301)else 301
 | _,_=>301
theorem rf (o:aM) (d:Nat) (t:D):1<=ku o d t/\ku o d t<=301:=by
 unfold ku;split
 ·rename_i d _ k _ n s l;have:0<=bT (ku o d) l:=fj (λx=>(rf o d x).1) l;split
  ·split<;>omega
  omega
 omega
def pO (o:aM) (t:D):Bool:=decide (ku o 8 t<=300)
theorem bH {n:Nat} {d:D} (h:Tm n d):∃m k c s l,n=m+1/\d= .agg [.int .i64 k,.int .i64 c,.str s,.lst l]/\(s.size:Int)<=1048576/\(l.length:Int)<=1048576/\∀x∈l,Tm m x:=by
 cases n with
 | zero=>exact h.elim
 | succ m=>obtain ⟨k,c,s,l,r⟩:=h;exact ⟨m,k,c,s,l,rfl,r⟩
theorem ji {n:Nat} {k c:Int} {s:By} {l:Lq} (h:Tm n (.agg [.int .i64 k,.int .i64 c,.str s,.lst l])):∃m,n=m+1/\(s.size:Int)<=1048576/\(l.length:Int)<=1048576/\∀x∈l,Tm m x:=by
 obtain ⟨m,k',c',s',l',e,j,r⟩:=bH h;injection j with j;simp only[List.cons.injEq,D.int.injEq,D.str.injEq,D.lst.injEq,true_and,and_true]at j;obtain ⟨rfl,rfl,rfl,rfl⟩:=j;exact ⟨m,e,r⟩
def MS (o:aM) (d:Nat):Prop:=∀m k n s l,Tm m (.agg [.int .i64 k,.int .i64 n,.str s,.lst l])->∀a:Int,a=9-d->o.call 153 [.agg [.d (.int .i64 k),.d (.int .i64 n),.d (.str s),.d (.lst l)],.d (.int .i64 a)] []=some ⟨.d (.int .i64 (ku o d (.agg [.int .i64 k,.int .i64 n,.str s,.lst l]))),[],[]⟩
def LK (o:aM) (d:Nat):Prop:=∀m k n s l,Tm m (.agg [.int .i64 k,.int .i64 n,.str s,.lst l])->∀a b:Int,a=d->0<=b->b<=300->o.call 245 [.agg [.d (.int .i64 k),.d (.int .i64 n),.d (.str s),.d (.lst l)],.d (.int .i64 a),.d (.int .i64 b)] []=some ⟨.d (.int .i64 (if ku o d (.agg [.int .i64 k,.int .i64 n,.str s,.lst l])<=b then b-ku o d (.agg [.int .i64 k,.int .i64 n,.str s,.lst l])else-1)),[],[]⟩
section
variable {o:aM} (ho:aQ cu bw o)
include ho
def bq (j i:Int) (e:Lq) (n1 I:Int):St:=⟨E 32 [(1,Ai j),(5,Ai i),(16,Al e),(17,Ai n1),(18,Ai I)],O 32 []⟩
def eP (n6:Int):St:=⟨E 32 [(4,Ai 301),(5,Ai n6)],O 32 []⟩
def eR (i:Int):St:=⟨E 32 [(5,Ai i)],O 32 []⟩
def kR (I i a0_0 a0_1:Int) (e:By) (j:Lq) (J:Int):St:=⟨E 42 [(1,Ai I),(2,Ai i),(3,.sp [.int .i64 a0_0,.int .i64 a0_1,.str e,.lst j] 0),(7,Ai J)],O 42 []⟩
def gQ (i:Int):St:=⟨E 42 [(2,Ai i)],O 42 []⟩
theorem Io (d:Nat) (hd:d<=7) (IH:MS o d) (E:Int) (a4:E=8-d) (e:Lq) (m:Nat) (hT:∀x∈e,Tm m x) (n1:Int) (hn:(e.length:Int)=n1) (hl:n1<=1048576):∀j:Int,0<=j->j<=(n1:Int)->∀i:Int,1<=i->i<=300->(i+bT (ku o d) (e.drop j.toNat)<=300->o.loop 15300 (bq E i e n1 j)=some (.exit 0,eR (i+bT (ku o d) (e.drop j.toNat))))/\(¬i+bT (ku o d) (e.drop j.toNat)<=300->∃v,o.loop 15300 (bq E i e n1 j)=some (.ret,eP v)):=by
 refine cM (P:=λj=>∀i:Int,1<=i->i<=300->(i+bT (ku o d) (e.drop j.toNat)<=300->o.loop 15300 (bq E i e n1 j)=some (.exit 0,eR (i+bT (ku o d) (e.drop j.toNat))))/\(¬i+bT (ku o d) (e.drop j.toNat)<=300->∃v,o.loop 15300 (bq E i e n1 j)=some (.ret,eP v))) (n1:Int) ?_;intro j h0 h1 ih;try dsimp only at ih |-
 intro i a5 a0;rcases bn ho j n1 with ⟨I,g1⟩|⟨I,g1⟩
 ·rw[bL hn (by omega)];simp only[bT,Int.add_zero];exact ⟨λ_=>(ho.aB (by cbv;repeat (simp only[I];try cbv)):_=some (.exit 0,eR i)),λh=>absurd a0 h⟩
 obtain ⟨x,a3,U,V⟩:=aF hn h0 g1;obtain ⟨m',n2,n3,s1,l1,rfl,rfl,hs,hl,ht⟩:=bH (hT _ V);have e2:=ay ho h0 a3;obtain ⟨n4,M⟩:=kx (o.ar .add .i64 E 1);try have g3:n4=E+1:=M.symm.trans (dm ho (by omega) (by omega))
 obtain ⟨n5,g4,e4⟩:∃n5,n5=ku o d (.agg [.int .i64 n2,.int .i64 n3,.str s1,.lst l1])/\o.call 153 [At n2 n3 s1 l1,Ai n4] []=Ar (Ai n5):=⟨_,rfl,IH _ _ _ _ _ (hT _ V) _ (by omega)⟩
 have b4:=rf o d (.agg [.int .i64 n2,.int .i64 n3,.str s1,.lst l1]);have s4:=fj (λx=>(rf o d x).1) (e.drop (j+1).toNat);obtain ⟨n6,O⟩:=kx (o.ar .add .i64 i n5);try have g5:n6=i+n5:=O.symm.trans (dm ho (by omega) (by omega))
 rcases fB ho n6 300 with ⟨S,g6⟩|⟨S,g6⟩
 ·obtain ⟨n7,e7⟩:=kx (o.ar .add .i64 j 1);try have g7:n7=j+1:=e7.symm.trans (dm ho (by omega) (by omega))
  rw[U];simp only[bT];have J:=ih (by omega) n6 (by omega) (by omega);rw[show n6+bT (ku o d) (e.drop (j+1).toNat)=i+(ku o d (.agg [.int .i64 n2,.int .i64 n3,.str s1,.lst l1])+bT (ku o d) (e.drop (j+1).toNat)) by omega,show j+1=n7 by omega]at J;rw[show j+1=n7 by omega];exact ⟨λh=>(λz (hz:o.loop 15300 (bq E n6 e n1 n7)=some z)=>ho.aB (by rw[<-hz];cbv;repeat (simp only[I,e2,M,e4,O,S,e7];try cbv)):∀z,o.loop 15300 (bq E n6 e n1 n7)=some z->o.loop 15300 (bq E i e n1 j)=some z) _ (J.1 h),λh=>(J.2 h).imp λv h=>(λz (hz:o.loop 15300 (bq E n6 e n1 n7)=some z)=>ho.aB (by rw[<-hz];cbv;repeat (simp only[I,e2,M,e4,O,S,e7];try cbv)):∀z,o.loop 15300 (bq E n6 e n1 n7)=some z->o.loop 15300 (bq E i e n1 j)=some z) _ h⟩
 rw[U];simp only[bT];exact ⟨λh=>by omega,λ_=>⟨_,(ho.aB (by cbv;repeat (simp only[I,e2,M,e4,O,S];try cbv)):_=some (.ret,eP n6))⟩⟩
theorem Ip (d:Nat) (hd:d<=7) (IH:MS o d) (m:Nat) (a0_0 a0_1:Int) (j:By) (e:Lq) (S:Tm m (.agg [.int .i64 a0_0,.int .i64 a0_1,.str j,.lst e])) (I:Int) (U:I=8-d):o.call 153 [At a0_0 a0_1 j e,Ai I] []=Ar (Ai (ku o (d+1) (.agg [.int .i64 a0_0,.int .i64 a0_1,.str j,.lst e]))):=by
 obtain ⟨m,rfl,hs,hl,S⟩:=ji S;have ha:(j.size:Int)<=9000000000000000000:=by omega
 rcases fB ho I 8 with ⟨M,g1⟩|⟨M,g1⟩
 ·cases E:jw o a0_0 a0_1 j e
  ·have O:o.call 249 [At a0_0 a0_1 j e] []=Ar (Ab false):=(Nw ho a0_0 a0_1 j e (by omega)).trans (by rw[E]);exact (ho.aj (by cbv;repeat (simp only[M,E,O];try cbv)):_=Ar (Ai 301)).trans (by simp only[ku];rw[E];rfl)
  have O:o.call 249 [At a0_0 a0_1 j e] []=Ar (Ab true):=(Nw ho a0_0 a0_1 j e (by omega)).trans (by rw[E]);obtain ⟨n1,V,g4⟩:=aC ho e;have hl:=Io ho d hd IH I U e m S n1 g4.symm (by omega) 0 (Int.le_refl _) (by omega) 1 (by omega) (by omega);rw[show (0:Int).toNat=0 from rfl,List.drop_zero]at hl;by_cases hc:1+bT (ku o d) e<=300
  ·obtain ⟨n2,g5,J⟩:∃n2,n2=1+bT (ku o d) e/\o.loop 15300 (bq I 1 e n1 0)=some (.exit 0,eR n2):=⟨_,rfl,hl.1 hc⟩
   exact (ho.aj (by cbv at J;cbv;repeat (simp only[M,E,O,V,J];try cbv)):_=Ar (Ai n2)).trans (by simp only[ku];rw[E,if_pos rfl,if_pos hc,g5])
  obtain ⟨n2,J⟩:∃n2,o.loop 15300 (bq I 1 e n1 0)=some (.ret,eP n2):=hl.2 hc;exact (ho.aj (by cbv at J;cbv;repeat (simp only[M,E,O,V,J];try cbv)):_=Ar (Ai 301)).trans (by simp only[ku];rw[E,if_pos rfl,if_neg hc])
 omega
theorem rH {E a0_0 a0_1:Int} {e:By} {j:Lq} (I:(e.size:Int)<=9000000000000000000) (J:o.cmp .gtr E 8=true):o.call 153 [At a0_0 a0_1 e j,Ai E] []=Ar (Ai 301):=by
 refine ho.aj ?_
 cbv
 repeat (simp only[*];try cbv)
theorem measure (d:Nat) (E:d<=8):MS o d:=by
 induction d with
 | zero=>
  intro m k n s l h a e;obtain ⟨m,rfl,I,hl,J⟩:=ji h;exact (rH ho (by omega) (R6 ho (by omega))).trans (by simp only[ku])
 | succ d j=>
  intro m k n s l h a e;exact Ip ho d (by omega) (j (by omega)) m k n s l h a (by omega)
theorem Lx (d:Nat) (hd:d<=7) (IH:LK o d) (I:Int) (a4:I=d+1) (a0_0 a0_1:Int) (E:By) (e:Lq) (m:Nat) (S:∀x∈e,Tm m x) (n1:Int) (O:(e.length:Int)=n1) (hl:n1<=1048576):∀j:Int,0<=j->j<=(n1:Int)->∀i:Int,-1<=i->i<=300->o.loop 24500 (kR I i a0_0 a0_1 E e j)=some (.exit 0,gQ (if bT (ku o d) (e.drop j.toNat)<=i then i-bT (ku o d) (e.drop j.toNat)else-1)):=by
 refine cM (P:=λj=>∀i:Int,-1<=i->i<=300->o.loop 24500 (kR I i a0_0 a0_1 E e j)=some (.exit 0,gQ (if bT (ku o d) (e.drop j.toNat)<=i then i-bT (ku o d) (e.drop j.toNat)else-1))) (n1:Int) ?_;intro j U h1 V;try dsimp only at V |-
 intro i a5 a6;have s0:=fj (λx=>(rf o d x).1) (e.drop j.toNat);refine ho.fA λR Q=> ?_
 have e1:o.len e=n1:=(jA ho _).trans O;conv=>lhs;cbv;rw[e1];cbv
 rcases bn ho j n1 with ⟨e2,g2⟩|⟨e2,g2⟩<;>(conv=>lhs;rw[e2];cbv)
 ·subst Q;show some (Out.exit 0,gQ i)=_;rw[bL O (by omega)];simp only[bT,Int.sub_zero];by_cases h:0<=i
  · rw[if_pos h]
  rw[if_neg h,show i= -1 by omega]
 rcases jc ho i 0 with ⟨e3,g3⟩|⟨e3,g3⟩<;>(conv=>lhs;rw[e3];cbv)
 ·subst Q;show some (Out.exit 0,gQ i)=_;rw[if_neg (by omega),show i= -1 by omega]
 obtain ⟨x,a0,a3,J⟩:=aF O U g2;obtain ⟨m',n2,n3,s1,l1,rfl,rfl,hs,hl,ht⟩:=bH (S _ J);have e4:=ay ho U a0;obtain ⟨n4,e5,g5⟩:=aU ho I 1;have b4:=rf o d (.agg [.int .i64 n2,.int .i64 n3,.str s1,.lst l1]);have s4:=fj (λx=>(rf o d x).1) (e.drop (j+1).toNat);obtain ⟨n5,g6,e6⟩:∃n5,n5=(if ku o d (.agg [.int .i64 n2,.int .i64 n3,.str s1,.lst l1])<=i then i-ku o d (.agg [.int .i64 n2,.int .i64 n3,.str s1,.lst l1])else-1)/\o.call 245 [.agg [.d (.int .i64 n2),.d (.int .i64 n3),.d (.str s1),.d (.lst l1)],.d (.int .i64 n4),.d (.int .i64 i)] []=some ⟨.d (.int .i64 n5),[],[]⟩:=⟨_,rfl,IH _ _ _ _ _ (S _ J) _ _ (by omega) (by omega) (by omega)⟩
 have h5: -1<=n5/\n5<=300:=by rw[g6];split<;>omega
 obtain ⟨n6,e7,g7⟩:=bk ho j 1;conv=>lhs;rw[e4];cbv;rw[e5];cbv;rw[e6];cbv;rw[e7];cbv
 subst Q;show o.loop 24500 (kR I n5 a0_0 a0_1 E e n6)=_;have M:=V (by omega) n5 (by omega) (by omega);rw[show j+1=n6 by omega]at M;refine M.trans ?_;rw[a3,show j+1=n6 by omega];rw[show j+1=n6 by omega]at s4;simp only[bT];congr 3;split at g6<;>(repeat' split)<;>omega
theorem Ly (d:Nat) (hd:d<=7) (IH:LK o d) (m:Nat) (a0_0 a0_1:Int) (j:By) (e:Lq) (O:Tm m (.agg [.int .i64 a0_0,.int .i64 a0_1,.str j,.lst e])) (I a2:Int) (a0:I=d+1) (h2:0<=a2) (h3:a2<=300):o.call 245 [.agg [.d (.int .i64 a0_0),.d (.int .i64 a0_1),.d (.str j),.d (.lst e)],.d (.int .i64 I),.d (.int .i64 a2)] []=some ⟨.d (.int .i64 (if ku o (d+1) (.agg [.int .i64 a0_0,.int .i64 a0_1,.str j,.lst e])<=a2 then a2-ku o (d+1) (.agg [.int .i64 a0_0,.int .i64 a0_1,.str j,.lst e])else-1)),[],[]⟩:=by
 obtain ⟨m,rfl,hs,hl,O⟩:=ji O;have ha:(j.size:Int)<=9000000000000000000:=by omega
 have s4:=fj (λx=>(rf o d x).1) e;have b4:=rf o (d+1) (.agg [.int .i64 a0_0,.int .i64 a0_1,.str j,.lst e]);rcases bn ho I 1 with ⟨J,g1⟩|⟨J,g1⟩
 ·rcases bn ho a2 1 with ⟨M,g2⟩|⟨M,g2⟩
  ·cases E:jw o a0_0 a0_1 j e
   ·have S:o.call 320 [.agg [.d (.int .i64 a0_0),.d (.int .i64 a0_1),.d (.str j),.d (.lst e)]] []=some ⟨.d (.bool false),[],[]⟩:=(Nx ho a0_0 a0_1 j e (by omega)).trans (by rw[E]);have U:ku o (d+1) (.agg [.int .i64 a0_0,.int .i64 a0_1,.str j,.lst e])=301:=by simp only[ku];rw[E];rfl
    exact (ho.aj (by cbv;repeat (simp only[J,M,E,S];try cbv)):_=some ⟨.d (.int .i64 (-1)),[],[]⟩).trans (by rw[if_neg (by omega)])
   have S:o.call 320 [.agg [.d (.int .i64 a0_0),.d (.int .i64 a0_1),.d (.str j),.d (.lst e)]] []=some ⟨.d (.bool true),[],[]⟩:=(Nx ho a0_0 a0_1 j e (by omega)).trans (by rw[E]);obtain ⟨n1,V⟩:=kx (o.ar .sub .i64 a2 1);try have g5:n1=a2-1:=V.symm.trans (gj ho (by omega) (by omega))
   have hl:=Lx ho d hd IH I (by omega) a0_0 a0_1 j e m O _ rfl (by omega) 0 (Int.le_refl _) (by omega) n1 (by omega) (by omega);rw[show (0:Int).toNat=0 from rfl,List.drop_zero]at hl;obtain ⟨n2,g6,e6⟩:∃n2,n2=(if bT (ku o d) e<=n1 then n1-bT (ku o d) e else-1)/\o.loop 24500 (kR I n1 a0_0 a0_1 j e 0)=some (.exit 0,gQ n2):=⟨_,rfl,hl⟩
   have U:ku o (d+1) (.agg [.int .i64 a0_0,.int .i64 a0_1,.str j,.lst e])=(if 1+bT (ku o d) e<=300 then 1+bT (ku o d) e else 301):=by simp only[ku];rw[E,if_pos rfl]
   exact (ho.aj (by cbv at e6;cbv;repeat (simp only[J,M,E,S,V,e6];try cbv)):_=some ⟨.d (.int .i64 n2),[],[]⟩).trans (by rw[U,g6];congr 4;(repeat' split)<;>omega)
  exact (ho.aj (by cbv;repeat (simp only[J,M];try cbv)):_=some ⟨.d (.int .i64 (-1)),[],[]⟩).trans (by rw[if_neg (by omega)])
 omega
theorem Bp {E a0_0 a0_1:Int} {e:By} {j:Lq} {a2:Int} (I:(e.size:Int)<=9000000000000000000) (J:o.cmp .lss E 1=true):o.call 245 [At a0_0 a0_1 e j,Ai E,Ai a2] []=Ar (Ai (-1)):=by
 refine ho.aj ?_
 cbv
 repeat (simp only[*];try cbv)
theorem OV (d:Nat) (J:d<=8):LK o d:=by
 induction d with
 | zero=>
  intro m k n s l h a b E j e;obtain ⟨m,rfl,M,hl,O⟩:=ji h;have S:ku o 0 (.agg [.int .i64 k,.int .i64 n,.str s,.lst l])=301:=rfl;exact (Bp ho (by omega) (Kj ho (by omega))).trans (by rw[if_neg (by omega)])
 | succ d I=>
  intro m k n s l h a b E j e;exact Ly ho d (by omega) (I (by omega)) m k n s l h a b (by omega) j e
end
theorem sK:∀{n:Nat} {d:D},Tm n d->Tm (n+1) d
 | 0,_,h=>h.elim
 | n+1,_,⟨k,m,s,l,e,a,b,c⟩=>⟨k,m,s,l,e,a,b,λx j=>sK (c x j)⟩
def Rt (o:aM):Nat->D->Prop
 | 0,_=>False
 | n+1,d=>∃k m s l,d= .agg [.int .i64 k,.int .i64 m,.str s,.lst l]/\jw o k m s l=true/\∀x∈l,Rt o n x
theorem hU {o:aM} {k m:Int} {s:By} {l:Lq} (h:jw o k m s l=true):(s.size:Int)<=20/\(l.length:Int)<=60:=by
 unfold jw at h;have e:(⟨#[]⟩:By).size=0:=rfl;split at h
 ·simp only[af,decide_eq_true_eq]at h;rw[h.1.2,e];omega
 split at h
 ·simp only[af,decide_eq_true_eq,vY]at h;have:=cL h.1.1.2;omega
 split at h
 ·simp only[af,decide_eq_true_eq]at h;rw[h.1.2,e];omega
 split at h
 ·simp only[af,decide_eq_true_eq]at h;rw[h.1.2,e];omega
 split at h
 ·simp only[af,decide_eq_true_eq]at h;rw[h.1.2,e];omega
 cases h
theorem fO {o:aM}:∀{n:Nat} {d:D},Rt o n d->Tm n d
 | 0,_,h=>h.elim
 | n+1,_,⟨k,m,s,l,e,a,c⟩=>⟨k,m,s,l,e,by have:=hU a;omega,by have:=hU a;omega,λx j=>fO (c x j)⟩
theorem fE {o:aM} {n:Nat} {d:D} (h:Rt o n d):∃m k c s l,n=m+1/\d= .agg [.int .i64 k,.int .i64 c,.str s,.lst l]/\jw o k c s l=true/\∀x∈l,Rt o m x:=by
 cases n with
 | zero=>exact h.elim
 | succ m=>obtain ⟨k,c,s,l,r⟩:=h;exact ⟨m,k,c,s,l,rfl,r⟩
theorem lI {o:aM} {n:Nat} {k c:Int} {s:By} {l:Lq} (h:Rt o n (.agg [.int .i64 k,.int .i64 c,.str s,.lst l])):∃m,n=m+1/\jw o k c s l=true/\∀x∈l,Rt o m x:=by
 obtain ⟨m,k',c',s',l',e,j,r⟩:=fE h;injection j with j;simp only[List.cons.injEq,D.int.injEq,D.str.injEq,D.lst.injEq,true_and,and_true]at j;obtain ⟨rfl,rfl,rfl,rfl⟩:=j;exact ⟨m,e,r⟩
theorem qw {f:D->Int} (hf:∀x,1<=f x):∀{xs:Lq} {x:D},x∈xs->f x<=bT f xs
 | y::ys,x,h=>by
  have:=fj hf ys;have:=hf y;simp only[bT];rcases List.mem_cons.1 h with rfl | h
  ·omega
  have:=qw hf h;omega
theorem IA {o:aM}:∀{d n:Nat} {t:D},Tm n t->ku o d t<=300->Rt o d t
 | 0,_,_,_,h=>by simp only[ku]at h;omega
 | d+1,n,t,j,h=>by
  obtain ⟨m,k,c,s,l,rfl,rfl,I,J,h3⟩:=bH j;simp only[ku]at h;split at h
  ·rename_i E;split at h
   ·rename_i M;refine ⟨k,c,s,l,rfl,E,λx e=>IA (h3 x e) ?_⟩;have:=qw (f:=ku o d) (λx=>(rf o d x).1) e;omega
   omega
  omega
theorem xE {o:aM} {n:Nat} {t:D} (e:Tm n t) (h:pO o t=true):Rt o 8 t:=IA e (of_decide_eq_true h)
noncomputable def cE (a b:D):Bool:= @decide (a=b) (Classical.propDecidable _)
theorem nZ {a b:D} (h:a=b):cE a b=true:=by unfold cE;exact @decide_eq_true _ (Classical.propDecidable _) h
theorem eG {a b:D} (h:a≠b):cE a b=false:=by unfold cE;exact @decide_eq_false _ (Classical.propDecidable _) h
theorem n_ {a b:D} (h:cE a b=true):a=b:=by unfold cE at h;exact @of_decide_eq_true _ (Classical.propDecidable _) h
theorem mr {a b:D} (h:cE a b=false):a≠b:=by unfold cE at h;exact @of_decide_eq_false _ (Classical.propDecidable _) h
section
variable {o:aM} (ho:aQ cu bw o)
include ho
theorem nr {m:Nat} (a0_0 a0_1:Int) (e:By) (j:Lq) (J:Tm m (.agg [.int .i64 a0_0,.int .i64 a0_1,.str e,.lst j])):o.call 68 [.agg [.d (.int .i64 a0_0),.d (.int .i64 a0_1),.d (.str e),.d (.lst j)]] []=some ⟨.d (.bool (pO o (.agg [.int .i64 a0_0,.int .i64 a0_1,.str e,.lst j]))),[],[]⟩:=by
 refine ho.aL λR Q=> ?_
 obtain ⟨n1,E⟩:∃v,ku o 8 (.agg [.int .i64 a0_0,.int .i64 a0_1,.str e,.lst j])=v:=⟨_,rfl⟩
 have M:o.call 153 [.agg [.d (.int .i64 a0_0),.d (.int .i64 a0_1),.d (.str e),.d (.lst j)],.d (.int .i64 1)] []=some ⟨.d (.int .i64 n1),[],[]⟩:=(measure ho 8 (by omega) _ _ _ _ _ J _ (by omega)).trans (by rw[E]);conv=>lhs;cbv;rw[M];cbv
 rcases iz ho n1 300 with ⟨I,g2⟩|⟨I,g2⟩<;>(conv=>lhs;rw[I];cbv)
 all_goals
  subst Q;congr 3;unfold pO;congr 1;first | exact (decide_eq_false (by omega)).symm | exact (decide_eq_true (by omega)).symm
theorem nu {m:Nat} (a0_0 a0_1:Int) (e:By) (j:Lq) (J:Tm m (.agg [.int .i64 a0_0,.int .i64 a0_1,.str e,.lst j])):o.call 147 [.agg [.d (.int .i64 a0_0),.d (.int .i64 a0_1),.d (.str e),.d (.lst j)]] []=some ⟨.d (.bool (pO o (.agg [.int .i64 a0_0,.int .i64 a0_1,.str e,.lst j]))),[],[]⟩:=by
 refine ho.aL λR Q=> ?_
 obtain ⟨n1,E⟩:∃v,(if ku o 8 (.agg [.int .i64 a0_0,.int .i64 a0_1,.str e,.lst j])<=300 then 300-ku o 8 (.agg [.int .i64 a0_0,.int .i64 a0_1,.str e,.lst j])else-1)=v:=⟨_,rfl⟩
 have M:o.call 245 [.agg [.d (.int .i64 a0_0),.d (.int .i64 a0_1),.d (.str e),.d (.lst j)],.d (.int .i64 8),.d (.int .i64 300)] []=some ⟨.d (.int .i64 n1),[],[]⟩:=(OV ho 8 (by omega) _ _ _ _ _ J _ _ (by omega) (by omega) (by omega)).trans (by rw[E]);conv=>lhs;cbv;rw[M];cbv
 rcases jc ho n1 0 with ⟨I,g2⟩|⟨I,g2⟩<;>(conv=>lhs;rw[I];cbv)
 all_goals
  subst Q;have b:=rf o 8 (.agg [.int .i64 a0_0,.int .i64 a0_1,.str e,.lst j]);congr 3;unfold pO;congr 1;split at E<;>first | exact (decide_eq_false (by omega)).symm | exact (decide_eq_true (by omega)).symm
def ri (e:Lq) (n1 i:Int):St:=⟨E 15 [(5,Al e),(6,Ai n1),(7,Ai i)],O 15 []⟩
def oP:St:=⟨E 15 [],O 15 []⟩
def oQ:St:=⟨E 15 [(2,Ab false)],O 15 []⟩
theorem IB {m:Nat} (e:Lq) (J:∀x∈e,Tm m x) (n1:Int) (M:(e.length:Int)=n1) (hl:n1<=1048576):∀i:Int,0<=i->i<=(n1:Int)->o.loop 15800 (ri e n1 i)=some (if (e.drop i.toNat).all (pO o)then (.exit 0,oP)else (.ret,oQ)):=by
 refine cM (P:=λi=>o.loop 15800 (ri e n1 i)=some (if (e.drop i.toNat).all (pO o)then (.exit 0,oP)else (.ret,oQ))) (n1:Int) ?_;intro i O h1 S;try dsimp only at S |-
 refine ho.fA λR Q=> ?_
 conv=>lhs;cbv
 rcases bn ho i n1 with ⟨U,g1⟩|⟨U,g1⟩<;>(conv=>lhs;rw[U];cbv)
 ·subst Q;rw[bL M (by omega)];rfl
 obtain ⟨x,V,E,I⟩:=aF M O g1;obtain ⟨m',n2,n3,s1,l1,rfl,rfl,hs,hl,ht⟩:=bH (J _ I);have e2:=ay ho O V;conv=>lhs;rw[e2];cbv
 cases j:pO o (.agg [.int .i64 n2,.int .i64 n3,.str s1,.lst l1])<;>(conv=>lhs;rw[nr ho _ _ _ _ (J _ I),j];cbv)
 ·subst Q;rw[E,List.all_cons,j];rfl
 obtain ⟨n4,e4,g4⟩:=bk ho i 1;conv=>lhs;rw[e4];cbv
 subst Q;rw[E,List.all_cons,j,Bool.true_and];rw[show n4=i+1 by omega];exact S (by omega)
theorem xG {m:Nat} (e:Lq) (j:∀x∈e,Tm m x) (hl:(e.length:Int)<=1048576):o.call 158 [Al e] []=Ar (Ab (e.all (pO o))):=by
 refine ho.aL λR Q=> ?_
 obtain ⟨n1,E,g1⟩:=aC ho e;conv=>lhs;cbv;rw[E];cbv
 have hl:=IB ho e j n1 g1.symm (by omega) 0 (Int.le_refl _) (by omega);rw[show (0:Int).toNat=0 from rfl,List.drop_zero]at hl;conv at hl=>lhs;cbv
 cases hc:e.all (pO o)<;>(conv=>lhs;rw[hl,hc];cbv)
 all_goals
  subst Q;first | rfl | simp only[hc]
def jy (e j:Lq) (n1 i:Int):St:=⟨E 32 [(1,Al e),(2,.fn 66 []),(15,Al j),(16,Ai n1),(17,Ai i)],O 32 []⟩
def iV:St:=⟨E 32 [],O 32 []⟩
def iW:St:=⟨E 32 [(6,Ab false)],O 32 []⟩
def pP (a0_0 a0_1:Int) (e:By) (j:Lq) (a1_0 a1_1:Int) (a1_2:By) (a1_3:Lq) (i:Int):St:=⟨E 53 [(2,.sp [.int .i64 a0_0,.int .i64 a0_1,.str e,.lst j] 0),(3,.sp [.int .i64 a1_0,.int .i64 a1_1,.str a1_2,.lst a1_3] 0),(5,Ai i)],O 53 []⟩
def ny:St:=⟨E 53 [],O 53 []⟩
def nA:St:=⟨E 53 [(4,Ab false)],O 53 []⟩
omit ho in
def ST (o:aM) (f:FuncId) (d:Nat):Prop:=∀k n s l k' n' s' l' m,Tm d (.agg [.int .i64 k,.int .i64 n,.str s,.lst l])->Tm m (.agg [.int .i64 k',.int .i64 n',.str s',.lst l'])->o.call f [.agg [.d (.int .i64 k),.d (.int .i64 n),.d (.str s),.d (.lst l)],.agg [.d (.int .i64 k'),.d (.int .i64 n'),.d (.str s'),.d (.lst l')]] []=some ⟨.d (.bool (cE (.agg [.int .i64 k,.int .i64 n,.str s,.lst l]) (.agg [.int .i64 k',.int .i64 n',.str s',.lst l']))),[],[]⟩
theorem LQ (d:Nat) (IH:ST o 66 d) (e j:Lq) {m2:Nat} (hT:∀x∈e,Tm d x) (O:∀x∈j,Tm m2 x) (n1:Int) (hn:(e.length:Int)=n1) (S:(j.length:Int)=n1) (hl:n1<=1048576):∀i:Int,0<=i->i<=(n1:Int)->o.loop 15100 (jy j e n1 i)=some (if cE (.lst (e.drop i.toNat)) (.lst (j.drop i.toNat))then (.exit 0,iV)else (.ret,iW)):=by
 refine cM (P:=λi=>o.loop 15100 (jy j e n1 i)=some (if cE (.lst (e.drop i.toNat)) (.lst (j.drop i.toNat))then (.exit 0,iV)else (.ret,iW))) (n1:Int) ?_;intro i M h1 ih;try dsimp only at ih |-
 refine ho.fA λR Q=> ?_
 conv=>lhs;cbv
 rcases bn ho i n1 with ⟨e1,g1⟩|⟨e1,g1⟩<;>(conv=>lhs;rw[e1];cbv)
 ·subst Q;rw[bL hn (by omega),bL S (by omega),nZ rfl];rfl
 obtain ⟨x,a3,E,U⟩:=aF hn M g1;obtain ⟨m',n2,n3,s1,l1,rfl,rfl,hs,hl,ht⟩:=bH (hT _ U);have e2:=ay ho M a3;obtain ⟨y,a4,I,V⟩:=aF S M g1;obtain ⟨m'',n4,n5,s2,l2,rfl,rfl,a5,a6,a7⟩:=bH (O _ V);have e3:=ay ho M a4;conv=>lhs;rw[e2];cbv;rw[e3];cbv
 cases J:cE (.agg [.int .i64 n2,.int .i64 n3,.str s1,.lst l1]) (.agg [.int .i64 n4,.int .i64 n5,.str s2,.lst l2])<;>(conv=>lhs;rw[IH _ _ _ _ _ _ _ _ _ (hT _ U) (O _ V),J];cbv)
 ·subst Q;rw[eG (a:= .lst (e.drop i.toNat)) (λh=>mr J (by rw[E,I]at h;simp only[D.lst.injEq,List.cons.injEq]at h;rw[h.1]))];rfl
 obtain ⟨n6,e5,g5⟩:=bk ho i 1;conv=>lhs;rw[e5];cbv
 subst Q;have hq:cE (.lst (e.drop i.toNat)) (.lst (j.drop i.toNat))=cE (.lst (e.drop (i+1).toNat)) (.lst (j.drop (i+1).toNat)):=by
  have h1:=n_ J;cases h2:cE (.lst (e.drop (i+1).toNat)) (.lst (j.drop (i+1).toNat))
  ·exact eG λh=>mr h2 (by rw[E,I]at h;simp only[D.lst.injEq,List.cons.injEq]at h;rw[h.2])
  refine nZ ?_;have h3:=n_ h2;simp only[D.lst.injEq]at h3;rw[E,I,h1,h3]
 rw[hq];rw[show n6=i+1 by omega];exact ih (by omega)
theorem LR (d:Nat) (IH:ST o 347 d) (a0_0 a0_1:Int) (j:By) (a1_0 a1_1:Int) (a1_2:By) (e a1_3:Lq) {m2:Nat} (hT:∀x∈e,Tm d x) (O:∀x∈a1_3,Tm m2 x) (n1:Int) (hn:(e.length:Int)=n1) (S:(a1_3.length:Int)=n1) (hl:n1<=1048576):∀i:Int,0<=i->i<=(n1:Int)->o.loop 34700 (pP a0_0 a0_1 j e a1_0 a1_1 a1_2 a1_3 i)=some (if cE (.lst (e.drop i.toNat)) (.lst (a1_3.drop i.toNat))then (.exit 0,ny)else (.ret,nA)):=by
 refine cM (P:=λi=>o.loop 34700 (pP a0_0 a0_1 j e a1_0 a1_1 a1_2 a1_3 i)=some (if cE (.lst (e.drop i.toNat)) (.lst (a1_3.drop i.toNat))then (.exit 0,ny)else (.ret,nA))) (n1:Int) ?_;intro i M h1 ih;try dsimp only at ih |-
 refine ho.fA λR Q=> ?_
 have e1:o.len e=n1:=(jA ho _).trans hn;conv=>lhs;cbv;rw[e1];cbv
 rcases bn ho i n1 with ⟨e2,g2⟩|⟨e2,g2⟩<;>(conv=>lhs;rw[e2];cbv)
 ·subst Q;rw[bL hn (by omega),bL S (by omega),nZ rfl];rfl
 obtain ⟨x,a0,E,U⟩:=aF hn M g2;obtain ⟨m',n2,n3,s1,l1,rfl,rfl,hs,hl,ht⟩:=bH (hT _ U);have e3:=ay ho M a0;obtain ⟨y,a1,I,V⟩:=aF S M g2;obtain ⟨m'',n4,n5,s2,l2,rfl,rfl,a3,a4,a5⟩:=bH (O _ V);have e4:=ay ho M a1;conv=>lhs;rw[e3];cbv;rw[e4];cbv
 cases J:cE (.agg [.int .i64 n2,.int .i64 n3,.str s1,.lst l1]) (.agg [.int .i64 n4,.int .i64 n5,.str s2,.lst l2])<;>(conv=>lhs;rw[IH _ _ _ _ _ _ _ _ _ (hT _ U) (O _ V),J];cbv)
 ·subst Q;rw[eG (a:= .lst (e.drop i.toNat)) (λh=>mr J (by rw[E,I]at h;simp only[D.lst.injEq,List.cons.injEq]at h;rw[h.1]))];rfl
 obtain ⟨n6,e6,g6⟩:=bk ho i 1;conv=>lhs;rw[e6];cbv
 subst Q;have hq:cE (.lst (e.drop i.toNat)) (.lst (a1_3.drop i.toNat))=cE (.lst (e.drop (i+1).toNat)) (.lst (a1_3.drop (i+1).toNat)):=by
  have h1:=n_ J;cases h2:cE (.lst (e.drop (i+1).toNat)) (.lst (a1_3.drop (i+1).toNat))
  ·exact eG λh=>mr h2 (by rw[E,I]at h;simp only[D.lst.injEq,List.cons.injEq]at h;rw[h.2])
  refine nZ ?_;have h3:=n_ h2;simp only[D.lst.injEq]at h3;rw[E,I,h1,h3]
 rw[hq];rw[show n6=i+1 by omega];exact ih (by omega)
end
section
variable {o:aM} (ho:aQ cu bw o)
include ho
theorem Pd (d:Nat) (IH:ST o 66 d) (e j:Lq) {M:Nat} (O:∀x∈e,Tm d x) (E:∀x∈j,Tm M x) (hl:(e.length:Int)<=1048576):o.call 151 [Al e,Al j,.fn 66 []] []=Ar (Ab (cE (.lst e) (.lst j))):=by
 refine ho.aL λR Q=> ?_
 obtain ⟨n1,I,g1⟩:=aC ho e;obtain ⟨n2,S,g2⟩:=aC ho j;conv=>lhs;cbv;rw[I];cbv;rw[S];cbv
 rcases cD ho n1 n2 with ⟨J,g3⟩|⟨J,g3⟩<;>(conv=>lhs;rw[J];cbv)
 ·conv=>lhs;(try (rw[I];cbv))
  have hl:=LQ ho d IH e j O E n1 g1.symm (by omega) (by omega) 0 (Int.le_refl _) (by omega);rw[show (0:Int).toNat=0 from rfl,List.drop_zero,List.drop_zero]at hl;conv at hl=>lhs;cbv
  cases hc:cE (.lst e) (.lst j)<;>(conv=>lhs;rw[hl,hc];cbv)
  all_goals
   subst Q;first | rfl | simp only[hc]
 subst Q;rw[eG (λh=>by simp only[D.lst.injEq]at h;subst h;omega)];try rfl
theorem Rs (d:Nat) (IH:ST o 66 d) {m:Nat} (a0_0 a0_1:Int) (j:By) (e:Lq) (a1_0 a1_1:Int) (a1_2:By) (a1_3:Lq) (J:Tm (d+1) (.agg [.int .i64 a0_0,.int .i64 a0_1,.str j,.lst e])) (E:Tm m (.agg [.int .i64 a1_0,.int .i64 a1_1,.str a1_2,.lst a1_3])):o.call 66 [.agg [.d (.int .i64 a0_0),.d (.int .i64 a0_1),.d (.str j),.d (.lst e)],.agg [.d (.int .i64 a1_0),.d (.int .i64 a1_1),.d (.str a1_2),.d (.lst a1_3)]] []=some ⟨.d (.bool (cE (.agg [.int .i64 a0_0,.int .i64 a0_1,.str j,.lst e]) (.agg [.int .i64 a1_0,.int .i64 a1_1,.str a1_2,.lst a1_3]))),[],[]⟩:=by
 obtain ⟨d',hd,hs,hl,J⟩:=ji J;obtain rfl:d=d':=by omega
 obtain ⟨m,rfl,hs2,a0,E⟩:=ji E;refine ho.aL λR Q=> ?_
 conv=>lhs;cbv
 rcases av ho a0_0 a1_0 with ⟨M,g1⟩|⟨M,g1⟩<;>(conv=>lhs;rw[M];cbv)
 ·subst Q;rw[eG (λh=>by simp only[D.agg.injEq,List.cons.injEq,D.int.injEq,D.str.injEq,D.lst.injEq,true_and,and_true]at h;first | exact g1 h.1 | exact g1 h.2.1 | exact g1 h.2.2.1)];try rfl
 rcases av ho a0_1 a1_1 with ⟨O,g2⟩|⟨O,g2⟩<;>(conv=>lhs;rw[O];cbv)
 ·subst Q;rw[eG (λh=>by simp only[D.agg.injEq,List.cons.injEq,D.int.injEq,D.str.injEq,D.lst.injEq,true_and,and_true]at h;first | exact g2 h.1 | exact g2 h.2.1 | exact g2 h.2.2.1)];try rfl
 rcases aR ho j a1_2 with ⟨S,g3⟩|⟨S,g3⟩<;>(conv=>lhs;rw[S];cbv)
 ·subst Q;rw[eG (λh=>by simp only[D.agg.injEq,List.cons.injEq,D.int.injEq,D.str.injEq,D.lst.injEq,true_and,and_true]at h;first | exact g3 h.1 | exact g3 h.2.1 | exact g3 h.2.2.1)];try rfl
 obtain ⟨V,I⟩:∃b:Bool,cE (.lst e) (.lst a1_3)=b:=⟨_,rfl⟩
 have e4:o.call 151 [.d (.lst e),.d (.lst a1_3),.fn 66 []] []=some ⟨.d (.bool V),[],[]⟩:=(Pd ho d IH _ _ J E hl).trans (by rw[I]);conv=>lhs;rw[e4];cbv
 subst Q;congr 3;subst g1 g2 g3;rw[<-I];cases U:cE (.lst e) (.lst a1_3)
 ·exact congrArg D.bool (eG λh=>mr U (by simp only[D.agg.injEq,List.cons.injEq,D.lst.injEq,true_and,and_true]at h |-;exact h)).symm
 exact congrArg D.bool (nZ (by have:=n_ U;simp only[D.lst.injEq]at this;rw[this])).symm
theorem Ru (d:Nat) (IH:ST o 347 d) {m:Nat} (a0_0 a0_1:Int) (j:By) (e:Lq) (a1_0 a1_1:Int) (a1_2:By) (a1_3:Lq) (I:Tm (d+1) (.agg [.int .i64 a0_0,.int .i64 a0_1,.str j,.lst e])) (E:Tm m (.agg [.int .i64 a1_0,.int .i64 a1_1,.str a1_2,.lst a1_3])):o.call 347 [At a0_0 a0_1 j e,At a1_0 a1_1 a1_2 a1_3] []=Ar (Ab (cE (.agg [.int .i64 a0_0,.int .i64 a0_1,.str j,.lst e]) (.agg [.int .i64 a1_0,.int .i64 a1_1,.str a1_2,.lst a1_3]))):=by
 obtain ⟨d',hd,hs,hl,I⟩:=ji I;obtain rfl:d=d':=by omega
 obtain ⟨m,rfl,hs2,a0,E⟩:=ji E;refine ho.aL λR Q=> ?_
 conv=>lhs;cbv
 rcases cD ho a0_0 a1_0 with ⟨J,g1⟩|⟨J,g1⟩<;>(conv=>lhs;rw[J];cbv)
 ·rcases cD ho a0_1 a1_1 with ⟨M,g2⟩|⟨M,g2⟩<;>(conv=>lhs;rw[M];cbv)
  ·rcases rE ho j a1_2 with ⟨O,g3⟩|⟨O,g3⟩<;>(conv=>lhs;rw[O];cbv)
   ·obtain ⟨n1,U,V⟩:=aC ho e;obtain ⟨n2,e5,g5⟩:=aC ho a1_3;conv=>lhs;rw[U];cbv;rw[e5];cbv
    rcases cD ho n1 n2 with ⟨S,g6⟩|⟨S,g6⟩<;>(conv=>lhs;rw[S];cbv)
    ·have hl:=LR ho d IH a0_0 a0_1 j a1_0 a1_1 a1_2 e a1_3 I E n1 V.symm (by omega) (by omega) 0 (Int.le_refl _) (by omega);rw[show (0:Int).toNat=0 from rfl,List.drop_zero,List.drop_zero]at hl;conv at hl=>lhs;cbv
     cases hc:cE (.lst e) (.lst a1_3)<;>(conv=>lhs;rw[hl,hc];cbv)
     ·subst Q;rw[eG λh=>mr hc (by simp only[D.agg.injEq,List.cons.injEq,D.int.injEq,D.str.injEq,D.lst.injEq,true_and,and_true]at h;rw[h.2.2.2])];try rfl
     subst Q;rw[nZ (by have:=n_ hc;simp only[D.lst.injEq]at this;rw[this,g1,g2,g3])];try rfl
    subst Q;rw[eG (λh=>by simp only[D.agg.injEq,List.cons.injEq,D.int.injEq,D.str.injEq,D.lst.injEq,true_and,and_true]at h;have:=h.2.2.2;subst this;omega)];try rfl
   subst Q;rw[eG (λh=>by simp only[D.agg.injEq,List.cons.injEq,D.int.injEq,D.str.injEq,D.lst.injEq,true_and,and_true]at h;first | exact g3 h.1 | exact g3 h.2.1 | exact g3 h.2.2.1)];try rfl
  subst Q;rw[eG (λh=>by simp only[D.agg.injEq,List.cons.injEq,D.int.injEq,D.str.injEq,D.lst.injEq,true_and,and_true]at h;first | exact g2 h.1 | exact g2 h.2.1 | exact g2 h.2.2.1)];try rfl
 subst Q;rw[eG (λh=>by simp only[D.agg.injEq,List.cons.injEq,D.int.injEq,D.str.injEq,D.lst.injEq,true_and,and_true]at h;first | exact g1 h.1 | exact g1 h.2.1 | exact g1 h.2.2.1)];try rfl
theorem Em:∀d,ST o 66 d
 | 0=>λ_ _ _ _ _ _ _ _ _ h=>h.elim
 | d+1=>λk n s l k' n' s' l' m h e=>Rs ho d (Em d) k n s l k' n' s' l' h e
theorem BM:∀d,ST o 347 d
 | 0=>λ_ _ _ _ _ _ _ _ _ h=>h.elim
 | d+1=>λk n s l k' n' s' l' m h e=>Ru ho d (BM d) k n s l k' n' s' l' h e
omit ho in
def nB:D:= .agg [.int .i64 0,.int .i64 0,.str ⟨#[]⟩,.lst []]
omit ho in
theorem SK:Tm 1 nB:=⟨0,0,⟨#[]⟩,[],rfl,by decide,by decide,λx e=>by cases e⟩
theorem I0 {m:Nat} (a0_0 a0_1:Int) (e:By) (j:Lq) (I:Tm m (.agg [.int .i64 a0_0,.int .i64 a0_1,.str e,.lst j])):o.call 285 [At a0_0 a0_1 e j] []=Ar (Ab (cE (.agg [.int .i64 a0_0,.int .i64 a0_1,.str e,.lst j]) nB)):=by
 refine ho.aL λR Q=> ?_
 obtain ⟨J,E⟩:∃b:Bool,cE (.agg [.int .i64 a0_0,.int .i64 a0_1,.str e,.lst j]) (.agg [.int .i64 0,.int .i64 0,.str ⟨#[]⟩,.lst []])=b:=⟨_,rfl⟩
 have M:o.call 66 [At a0_0 a0_1 e j,At 0 0 ⟨#[]⟩ []] []=Ar (Ab J):=(Em ho _ _ _ _ _ _ _ _ _ 1 I SK).trans (by rw[E]);conv=>lhs;cbv;rw[M];cbv
 subst Q;rw[<-E];rfl
theorem I3 (a0_0 a0_1:Int) (j:By) (e:Lq):o.call 243 [.agg [.d (.int .i64 a0_0),.d (.int .i64 a0_1),.d (.str j),.d (.lst e)]] []=some ⟨.d (.bool (cE (.agg [.int .i64 a0_0,.int .i64 a0_1,.str j,.lst e]) nB)),[],[]⟩:=by
 refine ho.aL λR Q=> ?_
 conv=>lhs;cbv
 rcases av ho a0_0 0 with ⟨E,g1⟩|⟨E,g1⟩<;>(conv=>lhs;rw[E];cbv)
 ·subst Q;rw[eG (λh=>by simp only[nB,D.agg.injEq,List.cons.injEq,D.int.injEq,D.str.injEq,D.lst.injEq,true_and,and_true]at h;first | exact g1 h.1 | exact g1 h.2.1 | exact g1 h.2.2.1)];try rfl
 rcases av ho a0_1 0 with ⟨I,g2⟩|⟨I,g2⟩<;>(conv=>lhs;rw[I];cbv)
 ·subst Q;rw[eG (λh=>by simp only[nB,D.agg.injEq,List.cons.injEq,D.int.injEq,D.str.injEq,D.lst.injEq,true_and,and_true]at h;first | exact g2 h.1 | exact g2 h.2.1 | exact g2 h.2.2.1)];try rfl
 rcases aR ho j ⟨#[]⟩with ⟨J,g3⟩|⟨J,g3⟩<;>(conv=>lhs;rw[J];cbv)
 ·subst Q;rw[eG (λh=>by simp only[nB,D.agg.injEq,List.cons.injEq,D.int.injEq,D.str.injEq,D.lst.injEq,true_and,and_true]at h;first | exact g3 h.1 | exact g3 h.2.1 | exact g3 h.2.2.1)];try rfl
 obtain ⟨n1,S,U⟩:=aC ho e;obtain ⟨V,M⟩:=kx (o.cmp .eql n1 0);conv=>lhs;rw[S];cbv;rw[M];cbv
 subst Q;congr 3;subst g1 g2 g3;rw[<-M];cases O:o.cmp .eql n1 0
 ·have:=lY ho O;exact congrArg D.bool (eG λh=>by simp only[nB,D.agg.injEq,List.cons.injEq,D.lst.injEq,true_and,and_true]at h;subst h;exact this U).symm
 have:=Qa ho O;exact congrArg D.bool (nZ (by rw[List.length_eq_zero_iff.1 (by omega:e.length=0)];rfl)).symm
end
mutual
def sP:D->D
 | .lst l=> .own (31,4) (bM l)
 | .agg l=> .agg (bM l)
 | .int k n=> .int k n
 | .bool b=> .bool b
 | .str s=> .str s
 | .own z l=> .own z l
def bM:Lq->Lq
 | []=>[]
 | x::l=>sP x::bM l
end
theorem j6:∀l:Lq,bM l=l.map sP
 | []=>rfl
 | x::l=>by simp only[bM,List.map_cons,j6 l]
theorem pQ (l:Lq):(bM l).length=l.length:=by rw[j6,List.length_map]
theorem I7 (a b:Lq):bM (a++b)=bM a++bM b:=by simp only[j6,List.map_append]
theorem xL {l:Lq} (h:∀x∈l,bB (sP x)=x):aS (bM l)=l:=by
 rw[gZ,j6,List.map_map];exact (List.map_congr_left (f:=bB∘sP) (g:=id) λx e=>h x e).trans (List.map_id l)
theorem Au:∀{n:Nat} {x:D},Tm n x->bB (sP x)=x
 | 0,_,h=>h.elim
 | n+1,x,h=>by
  obtain ⟨m,k,c,s,l,j,rfl,_,_,hl⟩:=bH h;obtain rfl:n=m:=by omega
  simp only[sP,bM,bB,aS];rw[xL λx e=>Au (hl x e)]
theorem iY {n:Nat} {l:Lq} (h:∀x∈l,Tm n x):aS (bM l)=l:=xL λx e=>Au (h x e)
theorem G1 {n:Nat} {x:D} (h:Tm n x):(sP x).cells.length=4:=by obtain ⟨m,k,c,s,l,_,rfl,_⟩:=bH h;rfl
theorem Eo {n:Nat} {l:Lq} (h:∀x∈l,Tm n x):∀z∈bM l,z.cells.length=4:=by
 intro z e;rw[j6]at e;obtain ⟨x,j,rfl⟩:=List.mem_map.1 e;exact G1 (h x j)
theorem fF {o:aM} {n:Nat} {d:D} (h:Rt o n d):d.cells.length=4:=by obtain ⟨m,k,c,s,l,_,rfl,_⟩:=fE h;rfl
theorem sQ {n:Nat} {d:D} (h:Tm n d):d.cells.length=4:=by obtain ⟨m,k,c,s,l,_,rfl,_⟩:=bH h;rfl
def Sh (o:aM) (d:Nat):Prop:=∀k n s l,Tm d (.agg [.int .i64 k,.int .i64 n,.str s,.lst l])->o.call 105 [.agg [.d (.int .i64 k),.d (.int .i64 n),.d (.str s),.d (.lst l)]] []=some ⟨.agg [.d (.int .i64 k),.d (.int .i64 n),.d (.str s),.arr (0,0) (31,4) none false],[],[some (.orows (31,4) (bM l))]⟩
def SN (o:aM) (d:Nat):Prop:=∀k n s l,Tm d (.agg [.int .i64 k,.int .i64 n,.str s,.lst l])->o.call 202 [.agg [.d (.int .i64 k),.d (.int .i64 n),.d (.str s),.d (.lst l)]] []=some ⟨.agg [.d (.int .i64 k),.d (.int .i64 n),.d (.str s),.d (.lst l)],[],[]⟩
theorem BO {xs:Lq} {i:Int} {x:D} (j:0<=i) (e:xs[i.toNat]? =some x):xs.take (i+1).toNat=xs.take i.toNat++[x]:=by
 rw[show (i+1).toNat=i.toNat+1 by omega,List.take_add_one,e];rfl
section
variable {o:aM} (ho:aQ cu bw o)
include ho
def kG (e:Lq) (n1 i:Int) (y:Lq):St:=⟨E 19 [(3,.arr (16,0) (31,4) none false),(6,Al e),(7,Ai n1),(8,Ai i)],O 19 [(16,[Oq y])]⟩
def gH (y:Lq):St:=⟨E 19 [(3,.arr (16,0) (31,4) none false)],O 19 [(16,[Oq y])]⟩
def og (a0_0 a0_1:Int) (e:By) (j:Lq) (i:Int) (y:Lq):St:=⟨E 27 [(1,.sp [.int .i64 a0_0,.int .i64 a0_1,.str e,.lst j] 0),(2,.ptr (2,0) 0),(3,.ptr (3,0) 0),(4,Ai i)],O 27 [(2,[some (.box [Ai 0,Ai 0,As ⟨#[]⟩,.emp])]),(3,[some (.box [Ai a0_0,Ai a0_1,As e,.arr (24,0) (31,4) none false])]),(24,[Os y])]⟩
def jl (a0_0 a0_1:Int) (e:By) (y:Lq):St:=⟨E 27 [(2,.ptr (2,0) 0),(3,.ptr (3,0) 0)],O 27 [(2,[some (.box [Ai 0,Ai 0,As ⟨#[]⟩,.emp])]),(3,[some (.box [Ai a0_0,Ai a0_1,As e,.arr (24,0) (31,4) none false])]),(24,[Os y])]⟩
theorem Ry (d:Nat) (IH:Sh o d) (e:Lq) (J:∀x∈e,Tm d x) (n1:Int) (V:(e.length:Int)=n1) (hl:n1<=1048576):∀i:Int,0<=i->i<=(n1:Int)->∀y:Lq,y=bM (e.take i.toNat)->o.loop 19300 (kG e n1 i y)=some (.exit 0,gH (bM e)):=by
 refine cM (P:=λi=>∀y:Lq,y=bM (e.take i.toNat)->o.loop 19300 (kG e n1 i y)=some (.exit 0,gH (bM e))) (n1:Int) ?_;intro i M h1 O;try dsimp only at O |-
 intro y S;refine ho.fA λR Q=> ?_
 conv=>lhs;cbv
 rcases bn ho i n1 with ⟨U,g1⟩|⟨U,g1⟩<;>(conv=>lhs;rw[U];cbv)
 ·subst Q;show some (Out.exit 0,gH y)=_;rw[S,List.take_of_length_le (by omega)]
 obtain ⟨x,E,a1,I⟩:=aF V M g1;obtain ⟨m',n2,n3,s1,l1,a3,rfl,hs,hl,ht⟩:=bH (J _ I);have e2:=ay ho M E;obtain ⟨l2,hw,e3⟩:∃z,z=bM l1/\o.call 105 [At n2 n3 s1 l1] []=some ⟨Ay n2 n3 s1,[],[Oq z]⟩:=⟨_,rfl,IH _ _ _ _ (J _ I)⟩
 obtain ⟨l3,j⟩:∃z,z=bM (e.take (i+1).toNat):=⟨_,rfl⟩
 have e4:o.app y [.agg [.int .i64 n2,.int .i64 n3,.str s1,.own (31,4) l2]]=l3:=(ho.app _ _).trans (by rw[S,hw,j,BO M E,I7];rfl);have e5:o.fits 4 56 l3=true:=by exact cW ho (by rw[j,pQ,List.length_take];omega) (by decide) (by rw[j];exact Eo λz hz=>J z (List.mem_of_mem_take hz))
 obtain ⟨n4,e6,g6⟩:=bk ho i 1;conv=>lhs;rw[e2];cbv;rw[e3];cbv;rw[e4];cbv;rw[e5];cbv;rw[e6];cbv
 subst Q;rw[show n4=i+1 by omega];exact O (by omega) _ j
theorem rL (d:Nat) (IH:Sh o d) (e:Lq) (E:∀x∈e,Tm d x) (hl:(e.length:Int)<=1048576):o.call 193 [Al e] []=some ⟨.arr (0,0) (31,4) none false,[],[Oq (bM e)]⟩:=by
 refine ho.aL λR Q=> ?_
 obtain ⟨n1,I,g1⟩:=aC ho e;conv=>lhs;cbv;rw[I];cbv
 obtain ⟨l1,J,j⟩:∃z,z=bM e/\o.loop 19300 (kG e n1 0 [])=some (.exit 0,gH z):=⟨_,rfl,Ry ho d IH e E n1 g1.symm (by omega) 0 (Int.le_refl _) (by omega) [] rfl⟩
 conv at j=>lhs;cbv
 conv=>lhs;rw[j];cbv
 subst Q;rw[<-J];try rfl
theorem G3 (d:Nat) (IH:Sh o d) (a0_0 a0_1:Int) (j:By) (e:Lq) (E:Tm (d+1) (.agg [.int .i64 a0_0,.int .i64 a0_1,.str j,.lst e])):o.call 105 [At a0_0 a0_1 j e] []=some ⟨Ay a0_0 a0_1 j,[],[Oq (bM e)]⟩:=by
 obtain ⟨d',M,O,hl,E⟩:=ji E;obtain rfl:d=d':=by omega
 refine ho.aL λR Q=> ?_
 obtain ⟨l1,I,J⟩:∃z,z=bM e/\o.call 193 [Al e] []=some ⟨.arr (0,0) (31,4) none false,[],[Oq z]⟩:=⟨_,rfl,rL ho d IH e E hl⟩
 conv=>lhs;cbv;rw[J];cbv
 subst Q;rw[<-I];try rfl
theorem LX (d:Nat) (IH:SN o d) (a0_0 a0_1:Int) (j:By) (e:Lq) (M:∀x∈e,Tm d x) (n1:Int) (S:(e.length:Int)=n1) (hl:n1<=1048576):∀i:Int,0<=i->i<=(n1:Int)->∀y:Lq,y=e.take i.toNat->o.loop 20200 (og a0_0 a0_1 j e i y)=some (.exit 0,jl a0_0 a0_1 j e):=by
 refine cM (P:=λi=>∀y:Lq,y=e.take i.toNat->o.loop 20200 (og a0_0 a0_1 j e i y)=some (.exit 0,jl a0_0 a0_1 j e)) (n1:Int) ?_;intro i O h1 U;try dsimp only at U |-
 intro y V;refine ho.fA λR Q=> ?_
 have e1:o.len e=n1:=(jA ho _).trans S;conv=>lhs;cbv;rw[e1];cbv
 rcases bn ho i n1 with ⟨e2,g2⟩|⟨e2,g2⟩<;>(conv=>lhs;rw[e2];cbv)
 ·subst Q;show some (Out.exit 0,jl a0_0 a0_1 j y)=_;rw[V,List.take_of_length_le (by omega)]
 obtain ⟨x,I,a0,J⟩:=aF S O g2;obtain ⟨m',n2,n3,s1,l1,a1,rfl,hs,hl,ht⟩:=bH (M _ J);have e3:=ay ho O I;have e4:o.call 202 [At n2 n3 s1 l1] []=Ar (At n2 n3 s1 l1):=IH _ _ _ _ (M _ J);obtain ⟨l2,E⟩:∃l2,l2=e.take (i+1).toNat:=⟨_,rfl⟩
 have e5:o.app y [.agg [.int .i64 n2,.int .i64 n3,.str s1,.lst l1]]=l2:=(ho.app _ _).trans (by rw[V];exact (BO O I).symm.trans E.symm);have e6:o.fits 4 56 l2=true:=by exact cW ho (by rw[E,List.length_take];omega) (by decide) (λz hz=>sQ (M z (by rw[E]at hz;exact List.mem_of_mem_take hz)))
 obtain ⟨n4,e7,g7⟩:=bk ho i 1;conv=>lhs;rw[e3];cbv;rw[e4];cbv;rw[e5];cbv;rw[e6];cbv;rw[e7];cbv
 subst Q;rw[show n4=i+1 by omega];exact U (by omega) l2 E
theorem LY (d:Nat) (IH:SN o d) (a0_0 a0_1:Int) (e:By) (j:Lq) (E:Tm (d+1) (.agg [.int .i64 a0_0,.int .i64 a0_1,.str e,.lst j])):o.call 202 [At a0_0 a0_1 e j] []=Ar (At a0_0 a0_1 e j):=by
 obtain ⟨d',M,O,hl,E⟩:=ji E;obtain rfl:d=d':=by omega
 refine ho.aL λR Q=> ?_
 conv=>lhs;cbv
 obtain ⟨l1,I,J⟩:∃l1,j=l1/\o.loop 20200 (og a0_0 a0_1 e j 0 [])=some (.exit 0,jl a0_0 a0_1 e l1):=⟨_,rfl,LX ho d IH a0_0 a0_1 e j E _ rfl hl 0 (Int.le_refl _) (by omega) [] rfl⟩
 conv at J=>lhs;cbv
 conv=>lhs;rw[J];cbv
 subst Q;rw[I]
theorem jH:∀d,Sh o d
 | 0=>λ_ _ _ _ h=>h.elim
 | d+1=>λk n s l h=>G3 ho d (jH d) k n s l h
theorem mA:∀d,SN o d
 | 0=>λ_ _ _ _ h=>h.elim
 | d+1=>λk n s l h=>LY ho d (mA d) k n s l h
end
end T2
