import Derived.Test.YtfnagkpidcdocaaGreatM25
set_option linter.all false
namespace T2
open Go Go.Vi
set_option maxRecDepth 100000
set_option maxHeartbeats 4000000
section
variable {o:aM} (ho:aQ cu bw o)
include ho
section
variable (a0_0 a0_1:Lq) (a1_0:By) (a1_1 a1_2:Int) (a1_3:Lq) (a2 n1 n2:Int) (s1:By) (n3:Int) (hI:a1_3[a2.toNat]? =some (.agg [.int .i64 n1,.int .i64 n2,.str s1,.int .i64 n3])) (h20:0<=a2) (h21:a2<a1_3.length) (hC:∀x∈a0_0,v7 x) (hCb:(a0_0.length:Int)<=1048576) {m:Nat} (hP:∀x∈a0_1,Tm m x) (hPb:(a0_1.length:Int)<=1048576) (hs2:(s1.size:Int)<=1048576) (hf:0<=a1_2/\a1_2<=400) (hl3:(a1_3.length:Int)<=1048576)
include a0_0 a0_1 a1_0 a1_1 a1_2 a1_3 a2 n1 n2 s1 n3 hI h20 h21 hC hCb m hP hPb hs2 hf hl3
theorem KZ (a3:n1<1\/10<n1):o.call 317 [Ac a0_0 a0_1,.agg [As a1_0,Ai a1_1,Ai a1_2,Al a1_3],Ai a2] []=Ar (Ab (aV o a0_0 a0_1 a1_2 a1_3.length (a2+1) n1 n2 s1 n3)):=by
 refine ho.aL λR Q=> ?_
 have e1:=ay ho h20 hI;conv=>lhs;cbv;rw[e1];cbv
 rcases aR ho s1 ⟨#[]⟩with ⟨E,g2⟩|⟨E,g2⟩<;>(conv=>lhs;rw[E];cbv)
 ·conv=>lhs;(try (rw[E];cbv));rw[au ho n1 1];cbv;rw[au ho n1 2];cbv;rw[au ho n1 3];cbv;rw[au ho n1 4];cbv;rw[au ho n1 5];cbv;rw[au ho n1 6];cbv;rw[au ho n1 7];cbv;rw[au ho n1 8];cbv;rw[au ho n1 9];cbv;rw[au ho n1 10];cbv
  subst Q;clear hC hP hI;have:aV o a0_0 a0_1 a1_2 a1_3.length (a2+1) n1 n2 s1 n3=(jx n1 11 12&&(decide (s1=⟨#[]⟩)&&decide (n3=0)&&decide (n2=0))):=by
   unfold aV;rw[if_neg (by omega)];rw[if_neg (by omega)];rw[if_neg (by omega)];rw[if_neg (by omega)];rw[if_neg (by omega)];rw[if_neg (by omega)];rw[if_neg (by omega)];rw[if_neg (by omega)];rw[if_neg (by omega)];rw[if_neg (by omega)];by_cases e:n1=11
   · rw[if_pos e,fN (by omega)];rfl
   rw[if_neg e];by_cases j:n1=12
   · rw[if_pos j,fN (by omega)];rfl
   rw[if_neg j,kJ (by omega)];rfl
  rw[this];try (simp_all<;>omega)
 rcases av ho n3 0 with ⟨e3,g3⟩|⟨e3,g3⟩<;>(conv=>lhs;rw[e3];cbv)
 ·obtain ⟨n4,O,g4⟩:=bk ho a2 1;obtain ⟨n5,S,g5⟩:=aC ho a1_3;obtain ⟨n6,U,g6⟩:=aU ho n5 1;conv=>lhs;(try (rw[E];cbv));rw[O];cbv;rw[S];cbv;rw[U];cbv
  rcases aX n3 n4 n6 with ⟨I,V⟩|⟨I,V⟩
  all_goals
   conv=>lhs;rw[aJ ho,I];cbv;rw[au ho n1 1];cbv;rw[au ho n1 2];cbv;rw[au ho n1 3];cbv;rw[au ho n1 4];cbv;rw[au ho n1 5];cbv;rw[au ho n1 6];cbv;rw[au ho n1 7];cbv;rw[au ho n1 8];cbv;rw[au ho n1 9];cbv;rw[au ho n1 10];cbv
   subst Q;clear hC hP hI;have:aV o a0_0 a0_1 a1_2 a1_3.length (a2+1) n1 n2 s1 n3=(jx n1 11 12&&(decide (s1=⟨#[]⟩)&&decide (n3=0)&&decide (n2=0))):=by
    unfold aV;rw[if_neg (by omega)];rw[if_neg (by omega)];rw[if_neg (by omega)];rw[if_neg (by omega)];rw[if_neg (by omega)];rw[if_neg (by omega)];rw[if_neg (by omega)];rw[if_neg (by omega)];rw[if_neg (by omega)];rw[if_neg (by omega)];by_cases e:n1=11
    · rw[if_pos e,fN (by omega)];rfl
    rw[if_neg e];by_cases j:n1=12
    · rw[if_pos j,fN (by omega)];rfl
    rw[if_neg j,kJ (by omega)];rfl
   rw[this];try (simp_all<;>omega)
 obtain ⟨n4,O,g4⟩:=bk ho a2 1;obtain ⟨n5,S,g5⟩:=aC ho a1_3;obtain ⟨n6,U,g6⟩:=aU ho n5 1;conv=>lhs;(try (rw[E];cbv));rw[O];cbv;rw[S];cbv;rw[U];cbv
 rcases aX n3 n4 n6 with ⟨I,V⟩|⟨I,V⟩
 all_goals
  conv=>lhs;rw[aJ ho,I];cbv;rw[au ho n1 1];cbv;rw[au ho n1 2];cbv;rw[au ho n1 3];cbv;rw[au ho n1 4];cbv;rw[au ho n1 5];cbv;rw[au ho n1 6];cbv;rw[au ho n1 7];cbv;rw[au ho n1 8];cbv;rw[au ho n1 9];cbv;rw[au ho n1 10];cbv
  rcases av ho n2 0 with ⟨J,a0⟩|⟨J,a0⟩<;>(conv=>lhs;rw[J];cbv)
  ·subst Q;clear hC hP hI;have:aV o a0_0 a0_1 a1_2 a1_3.length (a2+1) n1 n2 s1 n3=(jx n1 11 12&&(decide (s1=⟨#[]⟩)&&decide (n3=0)&&decide (n2=0))):=by
    unfold aV;rw[if_neg (by omega)];rw[if_neg (by omega)];rw[if_neg (by omega)];rw[if_neg (by omega)];rw[if_neg (by omega)];rw[if_neg (by omega)];rw[if_neg (by omega)];rw[if_neg (by omega)];rw[if_neg (by omega)];rw[if_neg (by omega)];by_cases e:n1=11
    · rw[if_pos e,fN (by omega)];rfl
    rw[if_neg e];by_cases j:n1=12
    · rw[if_pos j,fN (by omega)];rfl
    rw[if_neg j,kJ (by omega)];rfl
   rw[this];try (simp_all<;>omega)
  rcases aX n1 11 12 with ⟨M,a1⟩|⟨M,a1⟩
  all_goals
   conv=>lhs;rw[aJ ho,M];cbv
   subst Q;clear hC hP hI;have:aV o a0_0 a0_1 a1_2 a1_3.length (a2+1) n1 n2 s1 n3=(jx n1 11 12&&(decide (s1=⟨#[]⟩)&&decide (n3=0)&&decide (n2=0))):=by
    unfold aV;rw[if_neg (by omega)];rw[if_neg (by omega)];rw[if_neg (by omega)];rw[if_neg (by omega)];rw[if_neg (by omega)];rw[if_neg (by omega)];rw[if_neg (by omega)];rw[if_neg (by omega)];rw[if_neg (by omega)];rw[if_neg (by omega)];by_cases e:n1=11
    · rw[if_pos e,fN (by omega)];rfl
    rw[if_neg e];by_cases j:n1=12
    · rw[if_pos j,fN (by omega)];rfl
    rw[if_neg j,kJ (by omega)];rfl
   rw[this];try (simp_all<;>omega)
theorem K7 (e:n1=1):o.call 317 [Ac a0_0 a0_1,.agg [As a1_0,Ai a1_1,Ai a1_2,Al a1_3],Ai a2] []=Ar (Ab (aV o a0_0 a0_1 a1_2 a1_3.length (a2+1) n1 n2 s1 n3)):=by
 refine ho.aL λR Q=> ?_
 have e1:=ay ho h20 hI;conv=>lhs;cbv;rw[e1];cbv
 rcases aR ho s1 ⟨#[]⟩with ⟨j,g2⟩|⟨j,g2⟩<;>(conv=>lhs;rw[j];cbv)
 ·conv=>lhs;(try (rw[j];cbv));rw[dF ho n1 1];cbv
  subst Q;clear hC hP hI;subst e;simp_all [aV]<;>omega
 rcases av ho n3 0 with ⟨U,g3⟩|⟨U,g3⟩<;>(conv=>lhs;rw[U];cbv)
 ·obtain ⟨n4,J,g4⟩:=bk ho a2 1;obtain ⟨n5,M,g5⟩:=aC ho a1_3;obtain ⟨n6,O,g6⟩:=aU ho n5 1;conv=>lhs;(try (rw[j];cbv));rw[J];cbv;rw[M];cbv;rw[O];cbv
  rcases aX n3 n4 n6 with ⟨E,S⟩|⟨E,S⟩
  all_goals
   conv=>lhs;rw[aJ ho,E];cbv;rw[dF ho n1 1];cbv
   subst Q;clear hC hP hI;subst e;simp_all [aV]<;>omega
 obtain ⟨n4,J,g4⟩:=bk ho a2 1;obtain ⟨n5,M,g5⟩:=aC ho a1_3;obtain ⟨n6,O,g6⟩:=aU ho n5 1;conv=>lhs;(try (rw[j];cbv));rw[J];cbv;rw[M];cbv;rw[O];cbv
 rcases aX n3 n4 n6 with ⟨E,S⟩|⟨E,S⟩
 all_goals
  conv=>lhs;rw[aJ ho,E];cbv;rw[dF ho n1 1];cbv
  rcases aX n2 0 1000000000000 with ⟨I,V⟩|⟨I,V⟩
  all_goals
   conv=>lhs;rw[aJ ho,I];cbv
   subst Q;clear hC hP hI;subst e;simp_all [aV]<;>omega
theorem K8 (j:n1=2):o.call 317 [Ac a0_0 a0_1,.agg [As a1_0,Ai a1_1,Ai a1_2,Al a1_3],Ai a2] []=Ar (Ab (aV o a0_0 a0_1 a1_2 a1_3.length (a2+1) n1 n2 s1 n3)):=by
 refine ho.aL λR Q=> ?_
 have e1:=ay ho h20 hI;conv=>lhs;cbv;rw[e1];cbv
 rcases aR ho s1 ⟨#[]⟩with ⟨O,g2⟩|⟨O,g2⟩<;>(conv=>lhs;rw[O];cbv)
 ·conv=>lhs;(try (rw[O];cbv));rw[au ho n1 1];cbv;rw[dF ho n1 2];cbv
  cases E:ia o s1
  ·have I:o.call 316 [As s1] []=Ar (Ab false):=(qy ho s1 (by omega)).trans (by rw[E]);conv=>lhs;rw[I];cbv
   subst Q;try rw[E]
   clear hC hP hI;subst j;simp_all [aV]<;>omega
  have I:o.call 316 [As s1] []=Ar (Ab true):=(qy ho s1 (by omega)).trans (by rw[E]);conv=>lhs;rw[I];cbv
  rcases av ho n2 0 with ⟨S,g6⟩|⟨S,g6⟩<;>(conv=>lhs;rw[S];cbv)
  ·subst Q;try rw[E]
   clear hC hP hI;subst j;simp_all [aV]<;>omega
  rcases av ho n3 0 with ⟨J,V⟩|⟨J,V⟩<;>(conv=>lhs;rw[J];cbv)
  all_goals
   subst Q;try rw[E]
   clear hC hP hI;subst j;simp_all [aV]<;>omega
 rcases av ho n3 0 with ⟨e3,g3⟩|⟨e3,g3⟩<;>(conv=>lhs;rw[e3];cbv)
 all_goals
  obtain ⟨n4,e4,g4⟩:=bk ho a2 1;obtain ⟨n5,I,g5⟩:=aC ho a1_3;obtain ⟨n6,S,g6⟩:=aU ho n5 1;conv=>lhs;(try (rw[O];cbv));rw[e4];cbv;rw[I];cbv;rw[S];cbv
  rcases aX n3 n4 n6 with ⟨J,V⟩|⟨J,V⟩
  all_goals
   conv=>lhs;rw[aJ ho,J];cbv;rw[au ho n1 1];cbv;rw[dF ho n1 2];cbv
   cases e:ia o s1
   ·have M:o.call 316 [As s1] []=Ar (Ab false):=(qy ho s1 (by omega)).trans (by rw[e]);conv=>lhs;rw[M];cbv
    subst Q;try rw[e]
    clear hC hP hI;subst j;simp_all [aV]<;>omega
   have M:o.call 316 [As s1] []=Ar (Ab true):=(qy ho s1 (by omega)).trans (by rw[e]);conv=>lhs;rw[M];cbv
   rcases av ho n2 0 with ⟨U,a0⟩|⟨U,a0⟩<;>(conv=>lhs;rw[U];cbv)
   ·subst Q;try rw[e]
    clear hC hP hI;subst j;simp_all [aV]<;>omega
   conv=>lhs;(try (simp (disch:=omega) only [bN ho];cbv))
   subst Q;try rw[e]
   clear hC hP hI;subst j;simp_all [aV]<;>omega
theorem K9 (e:n1=3):o.call 317 [Ac a0_0 a0_1,.agg [As a1_0,Ai a1_1,Ai a1_2,Al a1_3],Ai a2] []=Ar (Ab (aV o a0_0 a0_1 a1_2 a1_3.length (a2+1) n1 n2 s1 n3)):=by
 refine ho.aL λR Q=> ?_
 have e1:=ay ho h20 hI;conv=>lhs;cbv;rw[e1];cbv
 rcases aR ho s1 ⟨#[]⟩with ⟨j,g2⟩|⟨j,g2⟩<;>(conv=>lhs;rw[j];cbv)
 ·conv=>lhs;(try (rw[j];cbv));rw[au ho n1 1];cbv;rw[au ho n1 2];cbv;rw[dF ho n1 3];cbv
  subst Q;clear hC hP hI;subst e;simp_all [aV]<;>omega
 rcases av ho n3 0 with ⟨U,g3⟩|⟨U,g3⟩<;>(conv=>lhs;rw[U];cbv)
 ·obtain ⟨n4,J,g4⟩:=bk ho a2 1;obtain ⟨n5,M,g5⟩:=aC ho a1_3;obtain ⟨n6,O,g6⟩:=aU ho n5 1;conv=>lhs;(try (rw[j];cbv));rw[J];cbv;rw[M];cbv;rw[O];cbv
  rcases aX n3 n4 n6 with ⟨E,S⟩|⟨E,S⟩
  all_goals
   conv=>lhs;rw[aJ ho,E];cbv;rw[au ho n1 1];cbv;rw[au ho n1 2];cbv;rw[dF ho n1 3];cbv
   subst Q;clear hC hP hI;subst e;simp_all [aV]<;>omega
 obtain ⟨n4,J,g4⟩:=bk ho a2 1;obtain ⟨n5,M,g5⟩:=aC ho a1_3;obtain ⟨n6,O,g6⟩:=aU ho n5 1;conv=>lhs;(try (rw[j];cbv));rw[J];cbv;rw[M];cbv;rw[O];cbv
 rcases aX n3 n4 n6 with ⟨E,S⟩|⟨E,S⟩
 all_goals
  obtain ⟨n7,V,a1⟩:=aU ho a1_2 1;conv=>lhs;rw[aJ ho,E];cbv;rw[au ho n1 1];cbv;rw[au ho n1 2];cbv;rw[dF ho n1 3];cbv;rw[V];cbv
  rcases aX n2 0 n7 with ⟨I,a0⟩|⟨I,a0⟩
  all_goals
   conv=>lhs;rw[aJ ho,I];cbv
   subst Q;clear hC hP hI;subst e;simp_all [aV]<;>omega
end
end
section
variable {o:aM} (ho:aQ cu bw o)
include ho
section
variable (a0_0 a0_1:Lq) (a1_0:By) (a1_1 a1_2:Int) (a1_3:Lq) (a2 n1 n2:Int) (s1:By) (n3:Int) (hI:a1_3[a2.toNat]? =some (.agg [.int .i64 n1,.int .i64 n2,.str s1,.int .i64 n3])) (h20:0<=a2) (h21:a2<a1_3.length) (hC:∀x∈a0_0,v7 x) (hCb:(a0_0.length:Int)<=1048576) {m:Nat} (hP:∀x∈a0_1,Tm m x) (hPb:(a0_1.length:Int)<=1048576) (hs2:(s1.size:Int)<=1048576) (hf:0<=a1_2/\a1_2<=400) (hl3:(a1_3.length:Int)<=1048576)
include a0_0 a0_1 a1_0 a1_1 a1_2 a1_3 a2 n1 n2 s1 n3 hI h20 h21 hC hCb m hP hPb hs2 hf hl3
theorem K_ (e:n1=4):o.call 317 [Ac a0_0 a0_1,.agg [As a1_0,Ai a1_1,Ai a1_2,Al a1_3],Ai a2] []=Ar (Ab (aV o a0_0 a0_1 a1_2 a1_3.length (a2+1) n1 n2 s1 n3)):=by
 refine ho.aL λR Q=> ?_
 have e1:=ay ho h20 hI;conv=>lhs;cbv;rw[e1];cbv
 rcases aR ho s1 ⟨#[]⟩with ⟨j,g2⟩|⟨j,g2⟩<;>(conv=>lhs;rw[j];cbv)
 ·conv=>lhs;(try (rw[j];cbv));rw[au ho n1 1];cbv;rw[au ho n1 2];cbv;rw[au ho n1 3];cbv;rw[dF ho n1 4];cbv
  subst Q;clear hC hP hI;subst e;simp_all [aV]<;>omega
 rcases av ho n3 0 with ⟨U,g3⟩|⟨U,g3⟩<;>(conv=>lhs;rw[U];cbv)
 ·obtain ⟨n4,J,g4⟩:=bk ho a2 1;obtain ⟨n5,M,g5⟩:=aC ho a1_3;obtain ⟨n6,O,g6⟩:=aU ho n5 1;conv=>lhs;(try (rw[j];cbv));rw[J];cbv;rw[M];cbv;rw[O];cbv
  rcases aX n3 n4 n6 with ⟨E,S⟩|⟨E,S⟩
  all_goals
   conv=>lhs;rw[aJ ho,E];cbv;rw[au ho n1 1];cbv;rw[au ho n1 2];cbv;rw[au ho n1 3];cbv;rw[dF ho n1 4];cbv
   subst Q;clear hC hP hI;subst e;simp_all [aV]<;>omega
 obtain ⟨n4,J,g4⟩:=bk ho a2 1;obtain ⟨n5,M,g5⟩:=aC ho a1_3;obtain ⟨n6,O,g6⟩:=aU ho n5 1;conv=>lhs;(try (rw[j];cbv));rw[J];cbv;rw[M];cbv;rw[O];cbv
 rcases aX n3 n4 n6 with ⟨E,S⟩|⟨E,S⟩
 all_goals
  conv=>lhs;rw[aJ ho,E];cbv;rw[au ho n1 1];cbv;rw[au ho n1 2];cbv;rw[au ho n1 3];cbv;rw[dF ho n1 4];cbv
  rcases aX n2 0 20 with ⟨I,V⟩|⟨I,V⟩
  all_goals
   conv=>lhs;rw[aJ ho,I];cbv
   subst Q;clear hC hP hI;subst e;simp_all [aV]<;>omega
theorem La (e:n1=5):o.call 317 [Ac a0_0 a0_1,.agg [As a1_0,Ai a1_1,Ai a1_2,Al a1_3],Ai a2] []=Ar (Ab (aV o a0_0 a0_1 a1_2 a1_3.length (a2+1) n1 n2 s1 n3)):=by
 refine ho.aL λR Q=> ?_
 have e1:=ay ho h20 hI;conv=>lhs;cbv;rw[e1];cbv
 rcases aR ho s1 ⟨#[]⟩with ⟨j,g2⟩|⟨j,g2⟩<;>(conv=>lhs;rw[j];cbv)
 ·conv=>lhs;(try (rw[j];cbv));rw[au ho n1 1];cbv;rw[au ho n1 2];cbv;rw[au ho n1 3];cbv;rw[au ho n1 4];cbv;rw[dF ho n1 5];cbv
  subst Q;clear hC hP hI;subst e;simp_all [aV]<;>omega
 rcases av ho n3 0 with ⟨U,g3⟩|⟨U,g3⟩<;>(conv=>lhs;rw[U];cbv)
 ·obtain ⟨n4,J,g4⟩:=bk ho a2 1;obtain ⟨n5,M,g5⟩:=aC ho a1_3;obtain ⟨n6,O,g6⟩:=aU ho n5 1;conv=>lhs;(try (rw[j];cbv));rw[J];cbv;rw[M];cbv;rw[O];cbv
  rcases aX n3 n4 n6 with ⟨E,S⟩|⟨E,S⟩
  all_goals
   conv=>lhs;rw[aJ ho,E];cbv;rw[au ho n1 1];cbv;rw[au ho n1 2];cbv;rw[au ho n1 3];cbv;rw[au ho n1 4];cbv;rw[dF ho n1 5];cbv
   subst Q;clear hC hP hI;subst e;simp_all [aV]<;>omega
 obtain ⟨n4,J,g4⟩:=bk ho a2 1;obtain ⟨n5,M,g5⟩:=aC ho a1_3;obtain ⟨n6,O,g6⟩:=aU ho n5 1;conv=>lhs;(try (rw[j];cbv));rw[J];cbv;rw[M];cbv;rw[O];cbv
 rcases aX n3 n4 n6 with ⟨E,S⟩|⟨E,S⟩
 all_goals
  conv=>lhs;rw[aJ ho,E];cbv;rw[au ho n1 1];cbv;rw[au ho n1 2];cbv;rw[au ho n1 3];cbv;rw[au ho n1 4];cbv;rw[dF ho n1 5];cbv
  rcases aX n2 0 20 with ⟨I,V⟩|⟨I,V⟩
  all_goals
   conv=>lhs;rw[aJ ho,I];cbv
   subst Q;clear hC hP hI;subst e;simp_all [aV]<;>omega
theorem Lb (e:n1=6):o.call 317 [Ac a0_0 a0_1,.agg [As a1_0,Ai a1_1,Ai a1_2,Al a1_3],Ai a2] []=Ar (Ab (aV o a0_0 a0_1 a1_2 a1_3.length (a2+1) n1 n2 s1 n3)):=by
 refine ho.aL λR Q=> ?_
 have e1:=ay ho h20 hI;conv=>lhs;cbv;rw[e1];cbv
 rcases aR ho s1 ⟨#[]⟩with ⟨j,g2⟩|⟨j,g2⟩<;>(conv=>lhs;rw[j];cbv)
 ·conv=>lhs;(try (rw[j];cbv));rw[au ho n1 1];cbv;rw[au ho n1 2];cbv;rw[au ho n1 3];cbv;rw[au ho n1 4];cbv;rw[au ho n1 5];cbv;rw[dF ho n1 6];cbv
  subst Q;clear hC hP hI;subst e;simp_all [aV]<;>omega
 rcases av ho n3 0 with ⟨U,g3⟩|⟨U,g3⟩<;>(conv=>lhs;rw[U];cbv)
 ·obtain ⟨n4,J,g4⟩:=bk ho a2 1;obtain ⟨n5,M,g5⟩:=aC ho a1_3;obtain ⟨n6,O,g6⟩:=aU ho n5 1;conv=>lhs;(try (rw[j];cbv));rw[J];cbv;rw[M];cbv;rw[O];cbv
  rcases aX n3 n4 n6 with ⟨E,S⟩|⟨E,S⟩
  all_goals
   conv=>lhs;rw[aJ ho,E];cbv;rw[au ho n1 1];cbv;rw[au ho n1 2];cbv;rw[au ho n1 3];cbv;rw[au ho n1 4];cbv;rw[au ho n1 5];cbv;rw[dF ho n1 6];cbv
   subst Q;clear hC hP hI;subst e;simp_all [aV]<;>omega
 obtain ⟨n4,J,g4⟩:=bk ho a2 1;obtain ⟨n5,M,g5⟩:=aC ho a1_3;obtain ⟨n6,O,g6⟩:=aU ho n5 1;conv=>lhs;(try (rw[j];cbv));rw[J];cbv;rw[M];cbv;rw[O];cbv
 rcases aX n3 n4 n6 with ⟨E,S⟩|⟨E,S⟩
 all_goals
  conv=>lhs;rw[aJ ho,E];cbv;rw[au ho n1 1];cbv;rw[au ho n1 2];cbv;rw[au ho n1 3];cbv;rw[au ho n1 4];cbv;rw[au ho n1 5];cbv;rw[dF ho n1 6];cbv
  rcases aX n2 2 6 with ⟨I,V⟩|⟨I,V⟩
  all_goals
   conv=>lhs;rw[aJ ho,I];cbv
   subst Q;clear hC hP hI;subst e;simp_all [aV]<;>omega
end
end
section
variable {o:aM} (ho:aQ cu bw o)
include ho
section
variable (a0_0 a0_1:Lq) (a1_0:By) (a1_1 a1_2:Int) (a1_3:Lq) (a2 n1 n2:Int) (s1:By) (n3:Int) (hI:a1_3[a2.toNat]? =some (.agg [.int .i64 n1,.int .i64 n2,.str s1,.int .i64 n3])) (h20:0<=a2) (h21:a2<a1_3.length) (hC:∀x∈a0_0,v7 x) (hCb:(a0_0.length:Int)<=1048576) {m:Nat} (hP:∀x∈a0_1,Tm m x) (hPb:(a0_1.length:Int)<=1048576) (hs2:(s1.size:Int)<=1048576) (hf:0<=a1_2/\a1_2<=400) (hl3:(a1_3.length:Int)<=1048576)
include a0_0 a0_1 a1_0 a1_1 a1_2 a1_3 a2 n1 n2 s1 n3 hI h20 h21 hC hCb m hP hPb hs2 hf hl3
theorem Lc (E:n1=7):o.call 317 [Ac a0_0 a0_1,.agg [As a1_0,Ai a1_1,Ai a1_2,Al a1_3],Ai a2] []=Ar (Ab (aV o a0_0 a0_1 a1_2 a1_3.length (a2+1) n1 n2 s1 n3)):=by
 refine ho.aL λR Q=> ?_
 have e1:=ay ho h20 hI;conv=>lhs;cbv;rw[e1];cbv
 rcases aR ho s1 ⟨#[]⟩with ⟨M,g2⟩|⟨M,g2⟩<;>(conv=>lhs;rw[M];cbv)
 ·conv=>lhs;(try (rw[M];cbv));rw[au ho n1 1];cbv;rw[au ho n1 2];cbv;rw[au ho n1 3];cbv;rw[au ho n1 4];cbv;rw[au ho n1 5];cbv;rw[au ho n1 6];cbv;rw[dF ho n1 7];cbv
  cases e:kS s1
  ·have I:o.call 360 [As s1] []=Ar (Ab false):=(BP ho s1).trans (by rw[e]);conv=>lhs;rw[I];cbv
   subst Q;try rw[e]
   clear hC hP hI;subst E;simp_all [aV]<;>omega
  have I:o.call 360 [As s1] []=Ar (Ab true):=(BP ho s1).trans (by rw[e]);conv=>lhs;rw[I];cbv
  rcases av ho n2 0 with ⟨O,V⟩|⟨O,V⟩<;>(conv=>lhs;rw[O];cbv)
  ·subst Q;try rw[e]
   clear hC hP hI;subst E;simp_all [aV]<;>omega
  rcases av ho n3 0 with ⟨S,a0⟩|⟨S,a0⟩<;>(conv=>lhs;rw[S];cbv)
  all_goals
   subst Q;try rw[e]
   clear hC hP hI;subst E;simp_all [aV]<;>omega
 rcases av ho n3 0 with ⟨e3,g3⟩|⟨e3,g3⟩<;>(conv=>lhs;rw[e3];cbv)
 all_goals
  obtain ⟨n4,e4,g4⟩:=bk ho a2 1;obtain ⟨n5,e5,g5⟩:=aC ho a1_3;obtain ⟨n6,e6,g6⟩:=aU ho n5 1;conv=>lhs;(try (rw[M];cbv));rw[e4];cbv;rw[e5];cbv;rw[e6];cbv
  rcases aX n3 n4 n6 with ⟨e7,g7⟩|⟨e7,g7⟩
  all_goals
   conv=>lhs;rw[aJ ho,e7];cbv;rw[au ho n1 1];cbv;rw[au ho n1 2];cbv;rw[au ho n1 3];cbv;rw[au ho n1 4];cbv;rw[au ho n1 5];cbv;rw[au ho n1 6];cbv;rw[dF ho n1 7];cbv
   cases j:kS s1
   ·have J:o.call 360 [As s1] []=Ar (Ab false):=(BP ho s1).trans (by rw[j]);conv=>lhs;rw[J];cbv
    subst Q;try rw[j]
    clear hC hP hI;subst E;simp_all [aV]<;>omega
   have J:o.call 360 [As s1] []=Ar (Ab true):=(BP ho s1).trans (by rw[j]);conv=>lhs;rw[J];cbv
   rcases av ho n2 0 with ⟨U,a1⟩|⟨U,a1⟩<;>(conv=>lhs;rw[U];cbv)
   ·subst Q;try rw[j]
    clear hC hP hI;subst E;simp_all [aV]<;>omega
   conv=>lhs;(try (simp (disch:=omega) only [bN ho];cbv))
   subst Q;try rw[j]
   clear hC hP hI;subst E;simp_all [aV]<;>omega
theorem Ld (e:n1=8):o.call 317 [Ac a0_0 a0_1,.agg [As a1_0,Ai a1_1,Ai a1_2,Al a1_3],Ai a2] []=Ar (Ab (aV o a0_0 a0_1 a1_2 a1_3.length (a2+1) n1 n2 s1 n3)):=by
 refine ho.aL λR Q=> ?_
 have e1:=ay ho h20 hI;conv=>lhs;cbv;rw[e1];cbv
 rcases aR ho s1 ⟨#[]⟩with ⟨I,g2⟩|⟨I,g2⟩<;>(conv=>lhs;rw[I];cbv)
 ·obtain ⟨n4,hA,V⟩:∃n4,iB a0_0 s1=n4/\o.call 85 [Ac a0_0 a0_1,As s1] []=Ar (Ai n4):=⟨_,rfl,tZ ho a0_0 a0_1 s1 hC hCb⟩
  have a0:=pD a0_0 s1;conv=>lhs;(try (rw[I];cbv));rw[au ho n1 1];cbv;rw[au ho n1 2];cbv;rw[au ho n1 3];cbv;rw[au ho n1 4];cbv;rw[au ho n1 5];cbv;rw[au ho n1 6];cbv;rw[au ho n1 7];cbv;rw[dF ho n1 8];cbv;rw[V];cbv
  rcases jc ho n4 0 with ⟨J,a1⟩|⟨J,a1⟩<;>(conv=>lhs;rw[J];cbv)
  ·subst Q;clear hC hP hI;subst e;simp_all [aV]<;>omega
  obtain ⟨x,j,a3,E⟩:=aF (xs:=a0_0) rfl (show 0<=n4 by omega) (by omega);obtain ⟨s2,n5,n6,l1,rfl,hz⟩:=hC _ E;have hv:iU a0_0 n4=n5:=by unfold iU;rw[j]
  have a4:o.cF a0_0 n4=some (.agg [.str s2,.int .i64 n5,.int .i64 n6,.lst l1]):=ay ho (by omega) j;conv=>lhs;rw[a4];cbv
  rcases av ho n5 n2 with ⟨M,a5⟩|⟨M,a5⟩<;>(conv=>lhs;rw[M];cbv)
  ·subst Q;clear hC hP hI;subst e;simp_all [aV]<;>omega
  rcases av ho n3 0 with ⟨O,a6⟩|⟨O,a6⟩<;>(conv=>lhs;rw[O];cbv)
  all_goals
   subst Q;clear hC hP hI;subst e;simp_all [aV]<;>omega
 rcases av ho n3 0 with ⟨e3,g3⟩|⟨e3,g3⟩<;>(conv=>lhs;rw[e3];cbv)
 all_goals
  obtain ⟨n4,e4,g4⟩:=bk ho a2 1;obtain ⟨n5,e5,g5⟩:=aC ho a1_3;obtain ⟨n6,e6,g6⟩:=aU ho n5 1;conv=>lhs;(try (rw[I];cbv));rw[e4];cbv;rw[e5];cbv;rw[e6];cbv
  rcases aX n3 n4 n6 with ⟨e7,g7⟩|⟨e7,g7⟩
  all_goals
   obtain ⟨n7,hA,a7⟩:∃n7,iB a0_0 s1=n7/\o.call 85 [Ac a0_0 a0_1,As s1] []=Ar (Ai n7):=⟨_,rfl,tZ ho a0_0 a0_1 s1 hC hCb⟩
   have a0:=pD a0_0 s1;conv=>lhs;rw[aJ ho,e7];cbv;rw[au ho n1 1];cbv;rw[au ho n1 2];cbv;rw[au ho n1 3];cbv;rw[au ho n1 4];cbv;rw[au ho n1 5];cbv;rw[au ho n1 6];cbv;rw[au ho n1 7];cbv;rw[dF ho n1 8];cbv;rw[a7];cbv
   rcases jc ho n7 0 with ⟨S,a8⟩|⟨S,a8⟩<;>(conv=>lhs;rw[S];cbv)
   ·subst Q;clear hC hP hI;subst e;simp_all [aV]<;>omega
   obtain ⟨x,j,a3,E⟩:=aF (xs:=a0_0) rfl (show 0<=n7 by omega) (by omega);obtain ⟨s2,n8,n9,l1,rfl,hz⟩:=hC _ E;have hv:iU a0_0 n7=n8:=by unfold iU;rw[j]
   have a9:o.cF a0_0 n7=some (.agg [.str s2,.int .i64 n8,.int .i64 n9,.lst l1]):=ay ho (by omega) j;conv=>lhs;rw[a9];cbv
   rcases av ho n8 n2 with ⟨U,aa⟩|⟨U,aa⟩<;>(conv=>lhs;rw[U];cbv)
   ·subst Q;clear hC hP hI;subst e;simp_all [aV]<;>omega
   conv=>lhs;(try (simp (disch:=omega) only [bN ho];cbv))
   subst Q;clear hC hP hI;subst e;simp_all [aV]<;>omega
end
end
section
variable {o:aM} (ho:aQ cu bw o)
include ho
section
variable (a0_0 a0_1:Lq) (a1_0:By) (a1_1 a1_2:Int) (a1_3:Lq) (a2 n1 n2:Int) (s1:By) (n3:Int) (hI:a1_3[a2.toNat]? =some (.agg [.int .i64 n1,.int .i64 n2,.str s1,.int .i64 n3])) (h20:0<=a2) (h21:a2<a1_3.length) (hC:∀x∈a0_0,v7 x) (hCb:(a0_0.length:Int)<=1048576) {m:Nat} (hP:∀x∈a0_1,Tm m x) (hPb:(a0_1.length:Int)<=1048576) (hs2:(s1.size:Int)<=1048576) (hf:0<=a1_2/\a1_2<=400) (hl3:(a1_3.length:Int)<=1048576)
include a0_0 a0_1 a1_0 a1_1 a1_2 a1_3 a2 n1 n2 s1 n3 hI h20 h21 hC hCb m hP hPb hs2 hf hl3
theorem Le (e:n1=9):o.call 317 [Ac a0_0 a0_1,.agg [As a1_0,Ai a1_1,Ai a1_2,Al a1_3],Ai a2] []=Ar (Ab (aV o a0_0 a0_1 a1_2 a1_3.length (a2+1) n1 n2 s1 n3)):=by
 refine ho.aL λR Q=> ?_
 have e1:=ay ho h20 hI;conv=>lhs;cbv;rw[e1];cbv
 rcases aR ho s1 ⟨#[]⟩with ⟨I,g2⟩|⟨I,g2⟩<;>(conv=>lhs;rw[I];cbv)
 ·conv=>lhs;(try (rw[I];cbv));rw[au ho n1 1];cbv;rw[au ho n1 2];cbv;rw[au ho n1 3];cbv;rw[au ho n1 4];cbv;rw[au ho n1 5];cbv;rw[au ho n1 6];cbv;rw[au ho n1 7];cbv;rw[au ho n1 8];cbv;rw[dF ho n1 9];cbv
  subst Q;clear hC hP hI;subst e;simp_all [aV]<;>omega
 rcases av ho n3 0 with ⟨U,g3⟩|⟨U,g3⟩<;>(conv=>lhs;rw[U];cbv)
 all_goals
  obtain ⟨n4,e4,g4⟩:=bk ho a2 1;obtain ⟨n5,e5,g5⟩:=aC ho a1_3;obtain ⟨n6,e6,g6⟩:=aU ho n5 1;conv=>lhs;(try (rw[I];cbv));rw[e4];cbv;rw[e5];cbv;rw[e6];cbv
  rcases aX n3 n4 n6 with ⟨O,g7⟩|⟨O,g7⟩
  ·conv=>lhs;rw[aJ ho,O];cbv;rw[au ho n1 1];cbv;rw[au ho n1 2];cbv;rw[au ho n1 3];cbv;rw[au ho n1 4];cbv;rw[au ho n1 5];cbv;rw[au ho n1 6];cbv;rw[au ho n1 7];cbv;rw[au ho n1 8];cbv;rw[dF ho n1 9];cbv
   subst Q;clear hC hP hI;subst e;simp_all [aV]<;>omega
  obtain ⟨n7,V,a7⟩:=aC ho a0_1;obtain ⟨n8,a0,a8⟩:=aU ho n7 1;conv=>lhs;rw[aJ ho,O];cbv;rw[au ho n1 1];cbv;rw[au ho n1 2];cbv;rw[au ho n1 3];cbv;rw[au ho n1 4];cbv;rw[au ho n1 5];cbv;rw[au ho n1 6];cbv;rw[au ho n1 7];cbv;rw[au ho n1 8];cbv;rw[dF ho n1 9];cbv;rw[V];cbv;rw[a0];cbv
  rcases aX n2 0 n8 with ⟨E,a1⟩|⟨E,a1⟩
  ·conv=>lhs;rw[aJ ho,E];cbv
   subst Q;clear hC hP hI;subst e;simp_all [aV]<;>omega
  obtain ⟨x,J,a9,M⟩:=aF (xs:=a0_1) rfl (show 0<=n2 by omega) (by omega);obtain ⟨m',n9,j,s2,l1,aa,rfl,hs,hl,ht⟩:=bH (hP _ M);have a3:=hP _ M;have hv:GH o a0_1 n2 a1_2=sq o (.agg [.int .i64 n9,.int .i64 j,.str s2,.lst l1]) a1_2:=by unfold GH;rw[J]
  have a4:o.cF a0_1 n2=some (.agg [.int .i64 n9,.int .i64 j,.str s2,.lst l1]):=ay ho (by omega) J;obtain ⟨a5,S⟩:∃b:Bool,sq o (.agg [.int .i64 n9,.int .i64 j,.str s2,.lst l1]) a1_2=b:=⟨_,rfl⟩
  have a6:o.call 361 [At n9 j s2 l1,Ai a1_2] []=Ar (Ab a5):=(Gy ho _ _ _ _ a3 a1_2).trans (by rw[S]);conv=>lhs;rw[aJ ho,E];cbv;rw[a4];cbv;rw[a6];cbv
  subst Q;clear hC hP hI;subst e;simp_all [aV]<;>omega
theorem Ib (e:n1=10):o.call 317 [Ac a0_0 a0_1,.agg [As a1_0,Ai a1_1,Ai a1_2,Al a1_3],Ai a2] []=Ar (Ab (aV o a0_0 a0_1 a1_2 a1_3.length (a2+1) n1 n2 s1 n3)):=by
 refine ho.aL λR Q=> ?_
 have O:=ay ho h20 hI;conv=>lhs;cbv;rw[O];cbv
 rcases aR ho s1 ⟨#[]⟩with ⟨j,g2⟩|⟨j,g2⟩<;>(conv=>lhs;rw[j];cbv)
 ·conv=>lhs;(try (rw[j];cbv));rw[au ho n1 1];cbv;rw[au ho n1 2];cbv;rw[au ho n1 3];cbv;rw[au ho n1 4];cbv;rw[au ho n1 5];cbv;rw[au ho n1 6];cbv;rw[au ho n1 7];cbv;rw[au ho n1 8];cbv;rw[au ho n1 9];cbv;rw[dF ho n1 10];cbv
  subst Q;clear hC hP hI;subst e;simp_all [aV]<;>omega
 rcases av ho n3 0 with ⟨J,g3⟩|⟨J,g3⟩<;>(conv=>lhs;rw[J];cbv)
 all_goals
  obtain ⟨n4,S,g4⟩:=bk ho a2 1;obtain ⟨n5,U,g5⟩:=aC ho a1_3;obtain ⟨n6,V,g6⟩:=aU ho n5 1;conv=>lhs;(try (rw[j];cbv));rw[S];cbv;rw[U];cbv;rw[V];cbv
  rcases aX n3 n4 n6 with ⟨I,g7⟩|⟨I,g7⟩
  ·conv=>lhs;rw[aJ ho,I];cbv;rw[au ho n1 1];cbv;rw[au ho n1 2];cbv;rw[au ho n1 3];cbv;rw[au ho n1 4];cbv;rw[au ho n1 5];cbv;rw[au ho n1 6];cbv;rw[au ho n1 7];cbv;rw[au ho n1 8];cbv;rw[au ho n1 9];cbv;rw[dF ho n1 10];cbv
   subst Q;clear hC hP hI;subst e;simp_all [aV]<;>omega
  conv=>lhs;rw[aJ ho,I];cbv;rw[au ho n1 1];cbv;rw[au ho n1 2];cbv;rw[au ho n1 3];cbv;rw[au ho n1 4];cbv;rw[au ho n1 5];cbv;rw[au ho n1 6];cbv;rw[au ho n1 7];cbv;rw[au ho n1 8];cbv;rw[au ho n1 9];cbv;rw[dF ho n1 10];cbv
  rcases av ho n2 0 with ⟨E,M⟩|⟨E,M⟩<;>(conv=>lhs;rw[E];cbv)
  all_goals
   subst Q;clear hC hP hI;subst e;simp_all [aV]<;>omega
end
end
section
variable {o:aM} (ho:aQ cu bw o)
include ho
theorem OJ (a0_0 a0_1:Lq) (a1_0:By) (a1_1 a1_2:Int) (a1_3:Lq) (a2 n1 n2:Int) (s1:By) (n3:Int) (hI:a1_3[a2.toNat]? =some (.agg [.int .i64 n1,.int .i64 n2,.str s1,.int .i64 n3])) (h20:0<=a2) (h21:a2<a1_3.length) (hC:∀x∈a0_0,v7 x) (hCb:(a0_0.length:Int)<=1048576) {m:Nat} (hP:∀x∈a0_1,Tm m x) (hPb:(a0_1.length:Int)<=1048576) (hs2:(s1.size:Int)<=1048576) (hf:0<=a1_2/\a1_2<=400) (hl3:(a1_3.length:Int)<=1048576):o.call 317 [Ac a0_0 a0_1,.agg [As a1_0,Ai a1_1,Ai a1_2,Al a1_3],Ai a2] []=Ar (Ab (aV o a0_0 a0_1 a1_2 a1_3.length (a2+1) n1 n2 s1 n3)):=by
 by_cases j:n1=1
 ·exact K7 ho a0_0 a0_1 a1_0 a1_1 a1_2 a1_3 a2 n1 n2 s1 n3 hI h20 h21 hC hCb hP hPb hs2 hf hl3 j
 by_cases E:n1=2
 ·exact K8 ho a0_0 a0_1 a1_0 a1_1 a1_2 a1_3 a2 n1 n2 s1 n3 hI h20 h21 hC hCb hP hPb hs2 hf hl3 E
 by_cases h3:n1=3
 ·exact K9 ho a0_0 a0_1 a1_0 a1_1 a1_2 a1_3 a2 n1 n2 s1 n3 hI h20 h21 hC hCb hP hPb hs2 hf hl3 h3
 by_cases h4:n1=4
 ·exact K_ ho a0_0 a0_1 a1_0 a1_1 a1_2 a1_3 a2 n1 n2 s1 n3 hI h20 h21 hC hCb hP hPb hs2 hf hl3 h4
 by_cases I:n1=5
 ·exact La ho a0_0 a0_1 a1_0 a1_1 a1_2 a1_3 a2 n1 n2 s1 n3 hI h20 h21 hC hCb hP hPb hs2 hf hl3 I
 by_cases J:n1=6
 ·exact Lb ho a0_0 a0_1 a1_0 a1_1 a1_2 a1_3 a2 n1 n2 s1 n3 hI h20 h21 hC hCb hP hPb hs2 hf hl3 J
 by_cases M:n1=7
 ·exact Lc ho a0_0 a0_1 a1_0 a1_1 a1_2 a1_3 a2 n1 n2 s1 n3 hI h20 h21 hC hCb hP hPb hs2 hf hl3 M
 by_cases O:n1=8
 ·exact Ld ho a0_0 a0_1 a1_0 a1_1 a1_2 a1_3 a2 n1 n2 s1 n3 hI h20 h21 hC hCb hP hPb hs2 hf hl3 O
 by_cases S:n1=9
 ·exact Le ho a0_0 a0_1 a1_0 a1_1 a1_2 a1_3 a2 n1 n2 s1 n3 hI h20 h21 hC hCb hP hPb hs2 hf hl3 S
 by_cases e:n1=10
 ·exact Ib ho a0_0 a0_1 a1_0 a1_1 a1_2 a1_3 a2 n1 n2 s1 n3 hI h20 h21 hC hCb hP hPb hs2 hf hl3 e
 exact KZ ho a0_0 a0_1 a1_0 a1_1 a1_2 a1_3 a2 n1 n2 s1 n3 hI h20 h21 hC hCb hP hPb hs2 hf hl3 (by omega)
end
theorem pE {o:aM} {fns ps:Lq} {sl n lo op N to:Int} {s:By} (h:aV o fns ps sl n lo op N s to=true):
  1<=op/\op<=12/\((op=9\/op=10)->lo<=to/\to<=n-1)/\(op≠8->0<=tk op N/\tk op N<=20)/\(op=8->0<=iB fns s/\iU fns (iB fns s)=N):=by
 unfold aV at h;have t:∀{a b:Bool},(a&&b)=true->a=true/\b=true:=λh=>by simpa using h
 by_cases I:op=1
 ·subst I;exact ⟨by omega,by omega,by omega,λ_=>by simp[tk],by omega⟩
 rw[if_neg I]at h;by_cases J:op=2
 ·subst J;exact ⟨by omega,by omega,by omega,λ_=>by simp[tk],by omega⟩
 rw[if_neg J]at h;by_cases h3:op=3
 ·subst h3;exact ⟨by omega,by omega,by omega,λ_=>by simp[tk],by omega⟩
 rw[if_neg h3]at h;by_cases h4:op=4
 ·subst h4;rw[if_pos rfl]at h;have:=cL (t h).2;exact ⟨by omega,by omega,by omega,λ_=>by simp[tk];omega,by omega⟩
 rw[if_neg h4]at h;by_cases M:op=5
 ·subst M;rw[if_pos rfl]at h;have:=cL (t h).2;exact ⟨by omega,by omega,by omega,λ_=>by simp[tk];omega,by omega⟩
 rw[if_neg M]at h;by_cases O:op=6
 ·subst O;rw[if_pos rfl]at h;have:=cL (t h).2;exact ⟨by omega,by omega,by omega,λ_=>by simp[tk];omega,by omega⟩
 rw[if_neg O]at h;by_cases S:op=7
 ·subst S;exact ⟨by omega,by omega,by omega,λ_=>by simp[tk],by omega⟩
 rw[if_neg S]at h;by_cases U:op=8
 ·subst U;rw[if_pos rfl]at h;exact ⟨by omega,by omega,by omega,λh=>absurd rfl h,λ_=>⟨of_decide_eq_true (t (t h).1).1,of_decide_eq_true (t (t h).1).2⟩⟩
 rw[if_neg U]at h;by_cases V:op=9
 ·subst V;rw[if_pos rfl]at h;exact ⟨by omega,by omega,λ_=>cL (t (t (t h).1).1).2,λ_=>by simp[tk],by omega⟩
 rw[if_neg V]at h;by_cases e:op=10
 ·subst e;rw[if_pos rfl]at h;exact ⟨by omega,by omega,λ_=>cL (t (t h).1).2,λ_=>by simp[tk],by omega⟩
 rw[if_neg e]at h;by_cases j:op=11
 ·subst j;exact ⟨by omega,by omega,by omega,λ_=>by simp[tk],by omega⟩
 rw[if_neg j]at h;by_cases E:op=12
 ·subst E;exact ⟨by omega,by omega,by omega,λ_=>by simp[tk],by omega⟩
 rw[if_neg E]at h;cases h
theorem Lf {o:aM} {fns ps:Lq} {sl n lo lo' op N to:Int} {s:By} (h:aV o fns ps sl n lo op N s to=true) (E:(op=9\/op=10)->lo'<=to):aV o fns ps sl n lo' op N s to=true:=by
 have ho:=pE h;by_cases j:op=9\/op=10
 ·have e:jx to lo (n-1)=jx to lo' (n-1):=by rw[fN (ho.2.2.1 j),fN ⟨E j,(ho.2.2.1 j).2⟩]
  unfold aV at h |-;rw[<-e];exact h
 unfold aV at h |-;rw[if_neg (by omega:¬op=9),if_neg (by omega:¬op=10)]at h |-;exact h
noncomputable def vD (o:aM) (fns ps:Lq) (sl:Int) (xs:Lq) (z:Bool) (i:Int):Bool:=match xs[i.toNat]? with
 | some (.agg [.int _ op,.int _ N,.str s,.int _ to])=>aV o fns ps sl xs.length (if z then i+1 else 0) op N s to
 | _=>false
theorem Bj {o:aM} {fns ps xs:Lq} {sl i op N to:Int} {s:By} {z:Bool} (h:xs[i.toNat]? =some (.agg [.int .i64 op,.int .i64 N,.str s,.int .i64 to])):vD o fns ps sl xs z i=aV o fns ps sl xs.length (if z then i+1 else 0) op N s to:=by unfold vD;rw[h]
def Ny (n:Int) (xs:Lq) (i:Int):Prop:=∀k:Nat,∀x,xs[k]? =some x->QV n (i+k) x
theorem CV {n:Int}:∀(xs:Lq) (i:Int),Ny n xs i->pB n xs i
 | [],_,_=>trivial
 | x::xs,i,h=>⟨by have:=h 0 x rfl;simpa using this,CV xs (i+1) λk y e=>by have:=h (k+1) y e;rw[show i+1+(k:Int)=i+(k+1:Nat) by omega];exact this⟩
theorem wO {n:Int}:∀(xs:Lq) (i:Int),pB n xs i->Ny n xs i
 | [],_,_,k,x,e=>by simp at e
 | y::xs,i,h,0,x,e=>by simp at e;subst e;simpa using h.1
 | y::xs,i,h,k+1,x,e=>by have:=wO xs (i+1) h.2 k x e;rw[show i+1+(k:Int)=i+(k+1:Nat) by omega]at this;exact this
theorem Bk {o:aM} {n:Int}:∀(xs:Lq) (i:Int) (H:List Int),qN o n xs i H=true->∀k:Nat,∀op N s to,xs[k]? =some (.agg [.int .i64 op,.int .i64 N,.str s,.int .i64 to])->(op=9\/op=10)->i+k<to
 | [],_,_,_,k,op,N,s,to,e,_=>by simp at e
 | y::xs,i,H,h,k,op,N,s,to,e,j=>by
  unfold qN at h;split at h
  ·rename_i E;cases E
  ·rename_i xs' i' H' U M k2 N' s' V O S E;injection E with I J;subst I J;split at h
   ·cases h
   split at h
   ·cases h
   rename_i K hK;cases k with
   | zero=>
    simp at e;obtain ⟨⟨_,rfl⟩,⟨_,rfl⟩,rfl,_,rfl⟩:=e;unfold cN at hK;split at hK
    ·cases hK
    rcases j with rfl | rfl
    ·rw[if_pos rfl]at hK;split at hK
     ·cases hK
     simp;omega
    rw[if_neg (by omega),if_pos rfl]at hK;split at hK
    ·cases hK
    simp;omega
   | succ k=>
    have:=Bk _ _ K h k op N s to e j;omega
  cases h
theorem Ic {o:aM} (ho:aQ cu bw o) {n:Int}:∀(xs:Lq) (i:Int) (H:List Int),0<=i->(H.length:Int)=n->i+xs.length=n->pB n xs i->qO o n xs i H=true->
  ∃F:List Int,F=zk o n xs i H/\(F.length:Int)=n/\(∀j,0<=j->gt H j≠ -1->gt F j=gt H j)/\∀k:Nat,∀op N s to,xs[k]? =some (.agg [.int .i64 op,.int .i64 N,.str s,.int .i64 to])->
   tk op N<=gt F (i+k)/\gt F (i+k)<=300/\(op=12->gt F (i+k)=1)/\(op=10->gt F to=gt F (i+k))/\(op=9->gt F to=gt F (i+k)/\i+k+1<n/\gt F (i+k+1)=gt F (i+k)-1)/\(op<=8->i+k+1<n/\gt F (i+k+1)=gt F (i+k)-tk op N+1):=by
 intro xs;induction xs with
 | nil=>intro i H S I hl _ _;exact ⟨H,rfl,I,λ_ _ _=>rfl,λk op N s to U=>by simp at U⟩
 | cons x xs ih=>
  intro i H S I hl a7 V;obtain ⟨⟨op,N,s,to,rfl,o1,o2,t1,t2,a3⟩,a6⟩:=a7;rw[gN]at V;simp only[List.length_cons]at hl;cases e:bW o n H op N to i with
  | none=>rw[e]at V;cases V
  | some K=>
   rw[e]at V;obtain ⟨k1,k2⟩:=wM I S a3 e;obtain ⟨F,f0,f1,f2,f3⟩:=ih (i+1) K (by omega) k1 (by omega) a6 V;refine ⟨F,by rw[f0,ic,e],f1,λj g0 g1=>by rw[f2 j g0 (by rw[k2 j g0 g1];exact g1),k2 j g0 g1],?_⟩;intro k a8 N' s' a9 U;cases k with
   | succ k=>
    have:=f3 k a8 N' s' a9 U;rw[show i+1+(k:Int)=i+(k+1:Nat) by omega]at this;exact this
   | zero=>
    simp only[List.getElem?_cons_zero,Option.some.injEq,D.agg.injEq,List.cons.injEq,D.int.injEq,D.str.injEq,true_and,and_true]at U;obtain ⟨rfl,rfl,rfl,rfl⟩:=U;simp only[Int.natCast_zero,Int.add_zero];unfold bW at e;by_cases O:gt H i<tk op N
    ·rw[if_pos O]at e;cases e
    rw[if_neg O]at e;by_cases c2:300<gt H i
    ·rw[if_pos c2]at e;cases e
    rw[if_neg c2]at e;have hF:gt F i=gt H i:=by rw[f2 i S (by rw[k2 i S (by omega)];omega),k2 i S (by omega)]
    have come:∀{J M:List Int} {a h:Int},(J.length:Int)=n->0<=a->a<n->0<=h->cm (dR J a h)=some M->gt M a=h:=by
     intro J M a h hJ a0 a1 hh hc;obtain ⟨O,rfl⟩:=nV hc;unfold dR at O |-;split
     ·rw[lq hJ a0 a1 a0,if_pos rfl]
     rename_i aa;rw[if_neg aa]at O;simpa using O
    have pick:∀{a h:Int},0<=a->0<=h->gt K a=h->gt F a=h:=λa0 hh e=>by rw[f2 _ a0 (by omega),e]
    rw[hF];have ac:o.ar .sub .i64 (gt H i) 1=gt H i-1:=gj ho (by omega) (by omega);have hs2:o.ar .sub .i64 (gt H i) (tk op N)=gt H i-tk op N:=gj ho (by omega) (by omega);have ae:o.ar .add .i64 (gt H i-tk op N) 1=gt H i-tk op N+1:=dm ho (by omega) (by omega);refine ⟨by omega,by omega,?_⟩;by_cases a4:op=12
    ·subst a4;rw[if_pos rfl]at e;split at e
     ·refine ⟨λ_=>by assumption,by omega,by omega,by omega⟩
     cases e
    rw[if_neg a4]at e;by_cases ag:op=11
    ·exact ⟨by omega,by omega,by omega,by omega⟩
    rw[if_neg ag]at e;by_cases a5:op=10
    ·subst a5;rw[if_pos rfl]at e;have hb:=a3 (.inr rfl);exact ⟨by omega,λ_=>pick (by omega) (by omega) (come I (by omega) (by omega) (by omega) e),by omega,by omega⟩
    rw[if_neg a5]at e;by_cases h9:op=9
    ·subst h9;rw[if_pos rfl]at e;have hb:=a3 (.inl rfl);have an:tk 9 N=1:=by unfold tk;simp
     cases c:cm (dR H to (gt H i))with
     | none=>rw[c]at e;cases e
     | some J=>
      rw[c,Option.bind_some]at e;have l2:(J.length:Int)=n:=by obtain ⟨_,rfl⟩:=nV c;rw[gk];exact I
      by_cases E:i+1<n
      ·rw[if_pos E,ac]at e;have j1:gt J to=gt H i:=come I (by omega) (by omega) (by omega) c;have j2:gt K to=gt H i:=by
        obtain ⟨_,rfl⟩:=nV e;rw[lu l2 (by omega) E (by omega) (by omega),j1]
       exact ⟨by omega,by omega,λ_=>⟨pick (by omega) (by omega) j2,E,pick (by omega) (by omega) (come l2 (by omega) E (by omega) e)⟩,by omega⟩
      rw[if_neg E]at e;cases e
    rw[if_neg h9]at e;have am:lv op=1:=by unfold lv;rw[if_pos (by omega)]
    rw[hs2,am,ae]at e;by_cases E:i+1<n
    ·rw[if_pos E]at e;exact ⟨by omega,by omega,by omega,λ_=>⟨E,pick (by omega) (by omega) (come I (by omega) E (by omega) e)⟩⟩
    rw[if_neg E]at e;cases e
def Sb (xs:Lq) (F:List Int):Prop:=(F.length:Int)=xs.length/\gt F 0=0/\∀i op N s to,0<=i->xs[i.toNat]? =some (.agg [.int .i64 op,.int .i64 N,.str s,.int .i64 to])->
 tk op N<=gt F i/\gt F i<=300/\(op=12->gt F i=1)/\(op=10->gt F to=gt F i)/\(op=9->gt F to=gt F i/\i+1<xs.length/\gt F (i+1)=gt F i-1)/\(op<=8->i+1<xs.length/\gt F (i+1)=gt F i-tk op N+1)
theorem Ft {o:aM} (ho:aQ cu bw o) {xs:Lq} (U:1<=(xs.length:Int)) (j:pB xs.length xs 0) (h:D5 o xs=true):Sb xs (D6 o xs):=by
 have E:=wL (n:=(xs.length:Int)) (by omega);obtain ⟨F,I,J,M,O⟩:=Ic ho xs 0 _ (Int.le_refl _) (by rw[List.length_set];exact E) (by omega) j h;rw[show D6 o xs=F from I.symm];refine ⟨J,?_,λi op N s to V S=> ?_⟩
 ·have e:gt ((H0 (xs.length:Int)).set 0 0) 0=0:=by
   rw[show ((0:Nat))=(0:Int).toNat from rfl,lq E (Int.le_refl _) (by omega) (Int.le_refl _),if_pos rfl]
  rw[M 0 (Int.le_refl _) (by rw[e];omega),e]
 have:=O i.toNat op N s to S;rw[show (0:Int)+(i.toNat:Int)=i by omega]at this;exact this
theorem Ie {xs:Lq} {F:List Int} (h:Sb xs F) {op N to:Int} {s:By} (h1:1<=(xs.length:Int)) (E:pB xs.length xs 0) (I:xs[((xs.length:Int)-1).toNat]? =some (.agg [.int .i64 op,.int .i64 N,.str s,.int .i64 to])):op=12\/op=11:=by
 obtain ⟨U,N',s',V,e,o1,o2,t1,t2,J⟩:=wO xs 0 E _ _ I;injection e with e;simp only[List.cons.injEq,D.int.injEq,D.str.injEq,true_and,and_true]at e;obtain ⟨rfl,rfl,rfl,rfl⟩:=e;have M:=h.2.2 ((xs.length:Int)-1) op N s to (by omega) I;rcases Decidable.em (op=9)with O | O
 ·have:=(M.2.2.2.2.1 O).2.1;omega
 rcases Decidable.em (op=10)with j | j
 ·have:=J (.inr j);omega
 rcases Decidable.em (op<=8)with S | S
 ·have:=(M.2.2.2.2.2 S).1;omega
 omega
theorem Fu {P:Int->Bool} {n:Int} (j:0<=n) (h:∀i,0<=i->i<n->P i=true):fR P 0 n=true:=by
 rw[Ox (Q:=λ_=>true) (λi E e=>h i E e) 0 (Int.le_refl _) j];have:∀i,0<=i->i<=n->fR (λ_=>true) i n=true:=down n (jb (Int.le_refl _)) λi E e I=>by rw[tY e,I];rfl
 exact this 0 (Int.le_refl _) j
def wP (xs:Lq):Bool:=match xs[((xs.length:Int)-1).toNat]? with | some (.agg (.int _ op::_))=>decide (op=12) || decide (op=11) | _=>false
noncomputable def zl (o:aM) (fns ps:Lq) (z:Bool) (nm:By) (a sl:Int) (xs:Lq):Bool:=
 ia o nm&&(jx a 0 4&&(jx sl a 400&&(jx xs.length 1 1500&&(fR (vD o fns ps sl xs z) 0 xs.length&&if z then D5 o xs&&wP xs else Fp o xs))))
noncomputable def Ig (o:aM) (fns ps:Lq) (z:Bool) (i:Int):Bool:=match fns[i.toNat]? with | some (.agg [.str nm,.int _ a,.int _ sl,.lst xs])=>decide (iB fns nm=i)&&zl o fns ps z nm a sl xs | _=>false
theorem Fv {o:aM} {fns ps xs:Lq} {z:Bool} {i a sl:Int} {nm:By} (h:fns[i.toNat]? =some (.agg [.str nm,.int .i64 a,.int .i64 sl,.lst xs])):Ig o fns ps z i=(decide (iB fns nm=i)&&zl o fns ps z nm a sl xs):=by unfold Ig;rw[h]
noncomputable def eB (o:aM) (fns ps:Lq) (z:Bool):Bool:=decide ((fns.length:Int)<=12)&&(decide ((ps.length:Int)<=2000)&&fR (Ig o fns ps z) 0 fns.length)
theorem ba {a b:Bool} (h:(a&&b)=true):a=true/\b=true:=by simpa using h
section
variable {o:aM} {fns ps:Lq} (hC:∀x∈fns,v7 x)
include hC
theorem Bl {z:Bool} (h:eB o fns ps z=true) {i:Int} (U:0<=i) (V:i<fns.length):
  ∃nm a sl xs,fns[i.toNat]? =some (.agg [.str nm,.int .i64 a,.int .i64 sl,.lst xs])/\(∀y∈xs,CU y)/\iB fns nm=i/\ia o nm=true/\(0<=a/\a<=4)/\(a<=sl/\sl<=400)/\(1<=(xs.length:Int)/\(xs.length:Int)<=1500)/\fR (vD o fns ps sl xs z) 0 xs.length=true/\(if z then D5 o xs&&wP xs else Fp o xs)=true:=by
 have E:=CQ (ba (ba h).2).2 i U V;have I:i.toNat<fns.length:=by omega
 obtain ⟨nm,a,sl,xs,e,_,_,hy⟩:=hC _ (List.getElem_mem I);have j:fns[i.toNat]? =some (.agg [.str nm,.int .i64 a,.int .i64 sl,.lst xs]):=by rw[bA I,e]
 rw[Fv j]at E;have ⟨g1,g2⟩:=ba E;unfold zl at g2;have ⟨g3,g4⟩:=ba g2;have ⟨g5,g6⟩:=ba g4;have ⟨g7,g8⟩:=ba g6;have ⟨g9,J⟩:=ba g8;have ⟨M,O⟩:=ba J;exact ⟨nm,a,sl,xs,j,λy S=>(hy y S).1,of_decide_eq_true g1,g3,cL g5,cL g7,cL g9,M,O⟩
theorem Aj {z:Bool} (h:eB o fns ps z=true) {i:Int} (e:0<=i) (j:i<fns.length):0<=iU fns i/\iU fns i<=4:=by
 obtain ⟨nm,a,sl,xs,E,_,_,_,I,_⟩:=Bl hC h e j;unfold iU;rw[E];exact I
omit hC in
theorem wQ {xs:Lq} {z:Bool} {sl:Int} (e:∀y∈xs,CU y) (j:fR (vD o fns ps sl xs z) 0 xs.length=true) {k:Nat} {x:D} (hk:xs[k]? =some x):
  ∃op N s to,x= .agg [.int .i64 op,.int .i64 N,.str s,.int .i64 to]/\aV o fns ps sl xs.length (if z then (k:Int)+1 else 0) op N s to=true:=by
 obtain ⟨op,N,s,to,rfl⟩:=e x (List.mem_of_getElem? hk);obtain ⟨E,_⟩:=ax.1 hk;have:=CQ j k (by omega) (by omega);rw[Bj (by rw[Int.toNat_natCast];exact hk)]at this;exact ⟨op,N,s,to,rfl,this⟩
theorem Fw {z:Bool} (h:eB o fns ps z=true) {xs:Lq} {sl:Int} (M:∀y∈xs,CU y) (O:fR (vD o fns ps sl xs z) 0 xs.length=true) (S:z=false->Fp o xs=true):pB xs.length xs 0:=by
 refine CV _ _ λk x hk=> ?_
 obtain ⟨op,N,s,to,rfl,U⟩:=wQ M O hk;have j:=pE U;have I:0<=tk op N/\tk op N<=400:=by
  by_cases J:op=8
  ·have E:=j.2.2.2.2 J;have hb:=pD fns s;have:=Aj hC h (i:=iB fns s) E.1 (by omega);have e:tk op N=N:=by unfold tk;rw[if_pos (by omega)]
   omega
  have:=j.2.2.2.1 J;omega
 refine ⟨op,N,s,to,rfl,j.1,j.2.1,I.1,I.2,λE=> ?_⟩;have:=j.2.2.1 E;cases z
 ·have V:=Bk xs 0 _ (S rfl) k op N s to hk E;exact ⟨V,by omega⟩
 rw[if_pos rfl]at this;exact ⟨by omega,by omega⟩
theorem su (ho:aQ cu bw o):eB o fns ps false=eB o fns ps true:=by
 have key:∀z w,eB o fns ps z=true->eB o fns ps w=true:=by
  intro z w h;have ⟨j,J⟩:=ba h;have ⟨h3,h4⟩:=ba J;unfold eB;rw[j,h3,Bool.true_and,Bool.true_and];refine Fu (by omega) λi i0 i1=> ?_
  obtain ⟨nm,a,sl,xs,hg,M,hA,hX,ha,hs,hl,hI,O⟩:=Bl hC h i0 i1;have E:=Fw hC h M hI (λe=>by subst e;exact O);have U:=QW ho hl.1 (by omega) E;have I:Fp o xs=true:=by
   cases z
   ·exact O
   rw[U];exact (ba O).1
  have V:D5 o xs=true:=by rw[<-U];exact I
  rw[Fv hg,hA,decide_eq_true rfl,Bool.true_and];unfold zl;rw[hX,fN ha,fN hs,fN hl];simp only[Bool.true_and,af];constructor
  ·refine Fu (by omega) λk k0 k1=> ?_
   obtain ⟨op,N,s,to,e,S⟩:=wQ M hI (k:=k.toNat) (bA (by omega));have hk:xs[k.toNat]? =some (.agg [.int .i64 op,.int .i64 N,.str s,.int .i64 to]):=by rw[bA (by omega),e]
   rw[Bj hk];refine Lf S λh9=> ?_
   have:=Bk xs 0 _ I k.toNat op N s to hk h9;have J:=(pE S).2.2.1 h9;cases w
   ·simp;omega
   simp;omega
  cases w
  ·exact I
  simp only[if_true,af];refine ⟨V,?_⟩;have hF:=Ft ho hl.1 E V;obtain ⟨op,N,s,to,e,S⟩:=wQ M hI (k:=((xs.length:Int)-1).toNat) (bA (by omega));have hk:xs[((xs.length:Int)-1).toNat]? =some (.agg [.int .i64 op,.int .i64 N,.str s,.int .i64 to]):=by rw[bA (by omega),e]
  have:=Ie hF hl.1 E hk;unfold wP;rw[hk];rcases this with rfl | rfl<;>rfl
 cases j:eB o fns ps false
 ·cases J:eB o fns ps true
  ·rfl
  rw[key true false J]at j;cases j
 rw[key false true j]
theorem pF (ho:aQ cu bw o) (h:eB o fns ps true=true) {i:Int} (S:0<=i) (U:i<fns.length):
  ∃nm a sl xs,fns[i.toNat]? =some (.agg [.str nm,.int .i64 a,.int .i64 sl,.lst xs])/\iB fns nm=i/\(0<=a/\a<=4)/\(a<=sl/\sl<=400)/\(1<=(xs.length:Int)/\(xs.length:Int)<=1500)/\(Sb xs (D6 o xs)/\Fp o xs=true/\D5 o xs=true/\hF o xs=D6 o xs/\(∀y∈xs,CU y)/\∀y∈xs,KN xs.length y)/\
   ∀k:Int,0<=k->k<xs.length->∃op N s to,xs[k.toNat]? =some (.agg [.int .i64 op,.int .i64 N,.str s,.int .i64 to])/\aV o fns ps sl xs.length (k+1) op N s to=true:=by
 obtain ⟨nm,a,sl,xs,V,I,hA,hX,ha,hs,hl,hI,hH⟩:=Bl hC h S U;have j:=Fw hC h I hI (λe=>by cases e);have E:=(ba hH).1;have J:=Fs ho hl.1 (by omega) j;refine ⟨nm,a,sl,xs,V,hA,ha,hs,hl,⟨Ft ho hl.1 j E,J.1.trans E,E,J.2 E,I,λy hy=> ?_⟩,λk k0 k1=> ?_⟩
 ·obtain ⟨k,hk⟩:=List.mem_iff_getElem?.1 hy;obtain ⟨op,N,s,to,e,_,_,_,_,M⟩:=wO xs 0 j k y hk;exact ⟨op,N,s,to,e,λh=>by have:=M h;omega⟩
 obtain ⟨op,N,s,to,e,O⟩:=wQ I hI (k:=k.toNat) (bA (by omega));rw[if_pos rfl,show ((k.toNat:Nat):Int)+1=k+1 by omega]at O;exact ⟨op,N,s,to,by rw[bA (by omega),e],O⟩
end
def jZ (fns ps:Lq):Prop:=(∀x∈fns,v7 x)/\(fns.length:Int)<=1048576/\(∃m,∀x∈ps,Tm m x)/\(ps.length:Int)<=1048576
section
variable {o:aM} (ho:aQ cu bw o)
include ho
def wR (c_0 c_1:Lq) (f_0:By) (f_1 f_2:Int) (f_3:Lq) (n1 i:Int):St:=⟨E 65 [(0,Sc c_0 c_1),(1,.sp [.str f_0,.int .i64 f_1,.int .i64 f_2,.lst f_3] 0),(47,Al f_3),(48,Ai n1),(49,Ai i)],O 65 []⟩
def sw (f_0:By) (f_1 f_2:Int) (f_3:Lq):St:=⟨E 65 [(1,.sp [.str f_0,.int .i64 f_1,.int .i64 f_2,.lst f_3] 0)],O 65 []⟩
def sx (f_0:By) (f_1 f_2:Int) (f_3:Lq):St:=⟨E 65 [(1,.sp [.str f_0,.int .i64 f_1,.int .i64 f_2,.lst f_3] 0),(4,Ab false)],O 65 []⟩
def sA (a0_0 a0_1:Lq) (n1 i:Int):St:=⟨E 38 [(1,Sc a0_0 a0_1),(16,Ai n1),(17,Ai i)],O 38 []⟩
def pG:St:=⟨E 38 [(2,Ab false)],O 38 []⟩
def pH:St:=⟨E 38 [],O 38 []⟩
def sB (a0_0 a0_1:Lq) (i:Int) (s1:By) (n1 n2:Int) (l1:Lq):St:=⟨E 83 [(2,Sc a0_0 a0_1),(5,.ptr (5,0) 0),(6,Ai i)],O 83 [(5,[some (.box [As s1,Ai n1,Ai n2,Al l1])])]⟩
def pJ (s1:By) (n1 n2:Int) (l1:Lq):St:=⟨E 83 [(5,.ptr (5,0) 0)],O 83 [(5,[some (.box [As s1,Ai n1,Ai n2,Al l1])])]⟩
def pK (s1:By) (n1 n2:Int) (l1:Lq):St:=⟨E 83 [(4,Ab false),(5,.ptr (5,0) 0)],O 83 [(5,[some (.box [As s1,Ai n1,Ai n2,Al l1])])]⟩
def sD (a0_0 a0_1:Lq) (i:Int):St:=⟨E 25 [(1,Sc a0_0 a0_1),(3,Ai i)],O 25 []⟩
def pL:St:=⟨E 25 [],O 25 []⟩
def pN:St:=⟨E 25 [(2,Ab false)],O 25 []⟩
theorem QZ (c_0 c_1:Lq) (hK:jZ c_0 c_1) (f_0:By) (f_1 f_2:Int) (f_3:Lq) (hd:v7 (.agg [.str f_0,.int .i64 f_1,.int .i64 f_2,.lst f_3])) (hf:0<=f_2/\f_2<=400) (n1:Int) (hn:(f_3.length:Int)=n1):∀i:Int,0<=i->i<=(n1:Int)->o.loop 18100 (wR c_0 c_1 f_0 f_1 f_2 f_3 n1 i)=some (if fR (vD o c_0 c_1 f_2 f_3 false) i n1 then (.exit 0,sw f_0 f_1 f_2 f_3)else (.ret,sx f_0 f_1 f_2 f_3)):=by
 refine cM (P:=λi=>o.loop 18100 (wR c_0 c_1 f_0 f_1 f_2 f_3 n1 i)=some (if fR (vD o c_0 c_1 f_2 f_3 false) i n1 then (.exit 0,sw f_0 f_1 f_2 f_3)else (.ret,sx f_0 f_1 f_2 f_3))) (n1:Int) ?_;intro i J h1 M;try dsimp only at M |-
 obtain ⟨hC,hCb,⟨m,hP⟩,hPb⟩:=hK;obtain ⟨s0,a0,b0,a1,e,a3,O,S⟩:=hd;injection e with e;simp only[List.cons.injEq,D.int.injEq,D.str.injEq,D.lst.injEq,true_and,and_true]at e;obtain ⟨rfl,rfl,rfl,rfl⟩:=e;refine ho.fA λR Q=> ?_
 conv=>lhs;cbv
 rcases bn ho i n1 with ⟨U,g1⟩|⟨U,g1⟩<;>(conv=>lhs;rw[U];cbv)
 ·subst Q;rw[jb (by omega),if_pos rfl];rfl
 obtain ⟨x,E,a4,V⟩:=aF hn J g1;obtain ⟨⟨n2,n3,s1,n4,rfl⟩,I⟩:=S _ V;have I:=I _ _ _ _ rfl;have hA:=Bj (o:=o) (fns:=c_0) (ps:=c_1) (sl:=f_2) (z:=false) E;have e2:=ay ho J E;conv=>lhs;rw[e2];cbv
 cases j:aV o c_0 c_1 f_2 f_3.length 0 n2 n3 s1 n4<;>(conv=>lhs;rw[KO ho c_0 c_1 f_0 f_1 f_2 f_3 n2 n3 s1 n4 hC hCb hP hPb I hf O,j];cbv)
 ·subst Q;rw[nT (by omega) (hA.trans j)];rfl
 obtain ⟨n5,e4,g4⟩:=bk ho i 1;conv=>lhs;rw[e4];cbv
 subst Q;rw[mO (by omega) (hA.trans j)];rw[show n5=i+1 by omega];exact M (by omega)
theorem OL (c_0 c_1:Lq) (hK:jZ c_0 c_1) (f_0:By) (f_1 f_2:Int) (f_3:Lq) (V:v7 (.agg [.str f_0,.int .i64 f_1,.int .i64 f_2,.lst f_3])):o.call 181 [Sc c_0 c_1,.sp [.str f_0,.int .i64 f_1,.int .i64 f_2,.lst f_3] 0] []=Ar (Ab (zl o c_0 c_1 false f_0 f_1 f_2 f_3)):=by
 have e:=V;obtain ⟨s0,a0,b0,a3,I,a4,a5,j⟩:=V;injection I with I;simp only[List.cons.injEq,D.int.injEq,D.str.injEq,D.lst.injEq,true_and,and_true]at I;obtain ⟨rfl,rfl,rfl,rfl⟩:=I;refine ho.aL λR Q=> ?_
 conv=>lhs;cbv
 cases E:ia o f_0<;>(conv=>lhs;rw[wh ho f_0 (by omega),E];cbv)
 ·subst Q;try rw[E]
  clear j e hK;unfold zl;simp_all
 rcases aX f_1 0 4 with ⟨J,g2⟩|⟨J,g2⟩
 ·conv=>lhs;rw[aD ho,J];cbv
  subst Q;try rw[E]
  clear j e hK;unfold zl;simp_all
 conv=>lhs;rw[aD ho,J];cbv
 rcases aX f_2 f_1 400 with ⟨M,g4⟩|⟨M,g4⟩
 ·conv=>lhs;rw[aD ho,M];cbv
  subst Q;try rw[E]
  clear j e hK;unfold zl;simp_all
 obtain ⟨n1,e6,g6⟩:=aC ho f_3;conv=>lhs;rw[aD ho,M];cbv;rw[e6];cbv
 rcases aX n1 1 1500 with ⟨O,g7⟩|⟨O,g7⟩
 ·conv=>lhs;rw[aD ho,O];cbv
  subst Q;try rw[E]
  clear j e hK;unfold zl;simp_all
 conv=>lhs;rw[aD ho,O];cbv;(try (rw[e6];cbv))
 have g2:=cL J;have g4:=cL M;have g7:=cL O;have hl:=QZ ho c_0 c_1 hK f_0 f_1 f_2 f_3 e (by omega) n1 g6.symm 0 (Int.le_refl _) (by omega);conv at hl=>lhs;cbv
 cases hc:fR (vD o c_0 c_1 f_2 f_3 false) 0 n1<;>(conv=>lhs;rw[hl,hc];cbv)
 ·subst Q;try rw[E]
  try rw[hc]
  clear j e hK;unfold zl;simp_all
 obtain ⟨l1,_,S⟩:=Gz ho f_0 f_1 f_2 f_3 (λx hx=>(j x hx).1) (by omega) (by omega);obtain ⟨b5,U⟩:∃b,Fp o f_3=b:=⟨_,rfl⟩
 have a1:o.call 192 [.sp [.str f_0,.int .i64 f_1,.int .i64 f_2,.lst f_3] 0] []=Ar (.tup [Al l1,Ab b5]):=S.trans (by rw[U]);conv=>lhs;rw[a1];cbv
 subst Q;try rw[E]
 try rw[hc]
 clear j e hK;unfold zl;simp_all
theorem Lg (a0_0 a0_1:Lq) (hK:jZ a0_0 a0_1) (n1:Int) (hn:(a0_0.length:Int)=n1):∀i:Int,0<=i->i<=(n1:Int)->o.loop 9000 (sA a0_0 a0_1 n1 i)=some (if fR (Ig o a0_0 a0_1 false) i n1 then (.exit 0,pH)else (.ret,pG)):=by
 refine cM (P:=λi=>o.loop 9000 (sA a0_0 a0_1 n1 i)=some (if fR (Ig o a0_0 a0_1 false) i n1 then (.exit 0,pH)else (.ret,pG))) (n1:Int) ?_;intro i M h1 O;try dsimp only at O |-
 have S:=hK;obtain ⟨hC,hCb,⟨m,hP⟩,hPb⟩:=hK;refine ho.fA λR Q=> ?_
 conv=>lhs;cbv
 rcases bn ho i n1 with ⟨U,g1⟩|⟨U,g1⟩<;>(conv=>lhs;rw[U];cbv)
 ·subst Q;rw[jb (by omega),if_pos rfl];rfl
 obtain ⟨x,j,a4,V⟩:=aF hn M g1;obtain ⟨s1,n2,n3,l1,rfl,a0,a1,a3⟩:=hC _ V;have I:=Fv (o:=o) (ps:=a0_1) (z:=false) j;have e2:=ay ho M j;obtain ⟨n4,E,e3⟩:∃n4,iB a0_0 s1=n4/\o.call 180 [Sc a0_0 a0_1,As s1] []=Ar (Ai n4):=⟨_,rfl,wN ho a0_0 a0_1 s1 hC hCb⟩
 conv=>lhs;rw[e2];cbv;rw[e3];cbv
 rcases cD ho n4 i with ⟨e4,J⟩|⟨e4,J⟩<;>(conv=>lhs;rw[e4];cbv)
 ·conv=>lhs;(try (rw[e2];cbv))
  cases e:zl o a0_0 a0_1 false s1 n2 n3 l1<;>(conv=>lhs;rw[OL ho a0_0 a0_1 S s1 n2 n3 l1 ⟨_,_,_,_,rfl,a0,a1,a3⟩,e];cbv)
  ·subst Q;rw[nT (by omega) (by rw[I,e,Bool.and_false])];rfl
  obtain ⟨n5,e6,g6⟩:=bk ho i 1;conv=>lhs;rw[e6];cbv
  subst Q;rw[mO (by omega) (by rw[I,E,decide_eq_true J,e];rfl)];rw[show n5=i+1 by omega];exact O (by omega)
 subst Q;rw[nT (by omega) (by rw[I,E,decide_eq_false J];rfl)];rfl
theorem sF (a0_0 a0_1:Lq) (hK:jZ a0_0 a0_1):o.call 90 [Ac a0_0 a0_1] []=Ar (Ab (eB o a0_0 a0_1 false)):=by
 refine ho.aL λR Q=> ?_
 obtain ⟨n1,e,g1⟩:=aC ho a0_0;conv=>lhs;cbv;rw[e];cbv
 rcases fB ho n1 12 with ⟨j,g2⟩|⟨j,g2⟩<;>(conv=>lhs;rw[j];cbv)
 ·obtain ⟨n2,I,g3⟩:=aC ho a0_1;conv=>lhs;rw[I];cbv
  rcases fB ho n2 2000 with ⟨E,J⟩|⟨E,J⟩<;>(conv=>lhs;rw[E];cbv)
  ·conv=>lhs;(try (rw[e];cbv))
   have hl:=Lg ho a0_0 a0_1 hK _ g1.symm 0 (Int.le_refl _) (by omega);conv at hl=>lhs;cbv
   cases hc:fR (Ig o a0_0 a0_1 false) 0 n1<;>(conv=>lhs;rw[hl,hc];cbv)
   all_goals
    subst Q;clear hK;subst g1;unfold eB;first | (rw[decide_eq_false (by omega)];rfl) | (rw[decide_eq_true (by omega),decide_eq_false (by omega)];rfl) | (rw[decide_eq_true (by omega),decide_eq_true (by omega),hc];rfl)
  subst Q;clear hK;subst g1;unfold eB;first | (rw[decide_eq_false (by omega)];rfl) | (rw[decide_eq_true (by omega),decide_eq_false (by omega)];rfl) | (rw[decide_eq_true (by omega),decide_eq_true (by omega),hc];rfl)
 subst Q;clear hK;subst g1;unfold eB;first | (rw[decide_eq_false (by omega)];rfl) | (rw[decide_eq_true (by omega),decide_eq_false (by omega)];rfl) | (rw[decide_eq_true (by omega),decide_eq_true (by omega),hc];rfl)
theorem Q0 (a0_0 a0_1:Lq) (hK:jZ a0_0 a0_1) (s1:By) (n1 n2:Int) (l1:Lq) (hd:v7 (.agg [.str s1,.int .i64 n1,.int .i64 n2,.lst l1])) (hf:0<=n2/\n2<=400) (q:Int) (hn:(l1.length:Int)=q):∀i:Int,0<=i->i<=(q:Int)->o.loop 24200 (sB a0_0 a0_1 i s1 n1 n2 l1)=some (if fR (vD o a0_0 a0_1 n2 l1 true) i q then (.exit 0,pJ s1 n1 n2 l1)else (.ret,pK s1 n1 n2 l1)):=by
 refine cM (P:=λi=>o.loop 24200 (sB a0_0 a0_1 i s1 n1 n2 l1)=some (if fR (vD o a0_0 a0_1 n2 l1 true) i q then (.exit 0,pJ s1 n1 n2 l1)else (.ret,pK s1 n1 n2 l1))) (q:Int) ?_;intro i J h1 M;try dsimp only at M |-
 obtain ⟨hC,hCb,⟨m,hP⟩,hPb⟩:=hK;obtain ⟨s0,a0,b0,a1,e,a3,O,S⟩:=hd;injection e with e;simp only[List.cons.injEq,D.int.injEq,D.str.injEq,D.lst.injEq,true_and,and_true]at e;obtain ⟨rfl,rfl,rfl,rfl⟩:=e;refine ho.fA λR Q=> ?_
 obtain ⟨n3,e1,g1⟩:=aC ho l1;conv=>lhs;cbv;rw[e1];cbv
 rcases bn ho i n3 with ⟨U,g2⟩|⟨U,g2⟩<;>(conv=>lhs;rw[U];cbv)
 ·subst Q;rw[jb (by omega),if_pos rfl];rfl
 obtain ⟨x,E,a4,V⟩:=aF hn J (by omega);obtain ⟨⟨op,N,s,to,rfl⟩,I⟩:=S _ V;have I:=I _ _ _ _ rfl;have hA:=Bj (o:=o) (fns:=a0_0) (ps:=a0_1) (sl:=n2) (z:=true) E;cases j:aV o a0_0 a0_1 n2 l1.length (i+1) op N s to<;>(conv=>lhs;rw[OJ ho a0_0 a0_1 s1 n1 n2 l1 i _ _ _ _ E J (by omega) hC hCb hP hPb I hf O,j];cbv)
 ·subst Q;rw[nT (by omega) (hA.trans j)];rfl
 obtain ⟨n4,e4,g4⟩:=bk ho i 1;conv=>lhs;rw[e4];cbv
 subst Q;rw[mO (by omega) (hA.trans j)];rw[show n4=i+1 by omega];exact M (by omega)
theorem Lh (a0_0 a0_1:Lq) (hK:jZ a0_0 a0_1) (O:Int) (h0:0<=O) (h1:O<a0_0.length):o.call 242 [Ac a0_0 a0_1,Ai O] []=Ar (Ab (Ig o a0_0 a0_1 true O)):=by
 have j:=hK;obtain ⟨hC,hCb,⟨m,hP⟩,hPb⟩:=hK;refine ho.aL λR Q=> ?_
 obtain ⟨x,a4,an,a8⟩:=aF rfl h0 h1;obtain ⟨s1,n1,n2,l1,rfl,a9,aa,e⟩:=hC _ a8;have I:=Fv (o:=o) (ps:=a0_1) (z:=true) a4;have e1:=ay ho h0 a4;conv=>lhs;cbv;rw[e1];cbv
 cases E:ia o s1<;>(conv=>lhs;rw[qy ho s1 (by omega),E];cbv)
 ·subst Q;try rw[E]
  clear e j hC hP;rw[I];unfold zl;simp_all
 obtain ⟨
         n3,ao,e3⟩:∃n3,iB a0_0 s1=n3/\o.call 85 [Ac a0_0 a0_1,As s1] []=Ar (Ai n3):=⟨_,rfl,tZ ho a0_0 a0_1 s1 hC hCb⟩
 conv=>lhs;rw[e3];cbv
 rcases cD ho n3 O with ⟨e4,g4⟩|⟨e4,g4⟩<;>(conv=>lhs;rw[e4];cbv)
 ·rcases aX n1 0 4 with ⟨e5,g5⟩|⟨e5,g5⟩
  ·conv=>lhs;rw[aJ ho,e5];cbv
   subst Q;try rw[E]
   clear e j hC hP;rw[I];unfold zl;simp_all
  conv=>lhs;rw[aJ ho,e5];cbv
  rcases aX n2 n1 400 with ⟨e7,g7⟩|⟨e7,g7⟩
  ·conv=>lhs;rw[aJ ho,e7];cbv
   subst Q;try rw[E]
   clear e j hC hP;rw[I];unfold zl;simp_all
  obtain ⟨n4,e9,g9⟩:=aC ho l1;conv=>lhs;rw[aJ ho,e7];cbv;rw[e9];cbv
  rcases aX n4 1 1500 with ⟨M,a5⟩|⟨M,a5⟩
  ·conv=>lhs;rw[aJ ho,M];cbv
   subst Q;try rw[E]
   clear e j hC hP;rw[I];unfold zl;simp_all
  conv=>lhs;rw[aJ ho,M];cbv
  have g5:=cL e5;have g7:=cL e7;have a5:=cL M;have hl:=Q0 ho a0_0 a0_1 j s1 n1 n2 l1 ⟨_,_,_,_,rfl,a9,aa,e⟩ (by omega) n4 g9.symm 0 (Int.le_refl _) (by omega);conv at hl=>lhs;cbv
  cases hc:fR (vD o a0_0 a0_1 n2 l1 true) 0 n4<;>(conv=>lhs;rw[hl,hc];cbv)
  ·subst Q;try rw[E]
   try rw[hc]
   clear e j hC hP;rw[I];unfold zl;simp_all
  have hI:∀y∈l1,KN l1.length y:=by
   intro y hy;obtain ⟨k,hk⟩:=List.mem_iff_getElem?.1 hy;obtain ⟨op,N,s,to,rfl,hp⟩:=wQ (λy hy=>(e y hy).1) (by rw[<-g9];exact hc) hk;have:=(pE hp).2.2.1;exact ⟨op,N,s,to,rfl,λh=>by have:=this h;rw[if_pos rfl]at this;omega⟩
  obtain ⟨l2,_,hg⟩:=GD ho s1 n1 n2 l1 hI (by omega) (by omega);cases S:D5 o l1
  ·have U:o.call 244 [.agg [As s1,Ai n1,Ai n2,Al l1]] []=Ar (.tup [Al l2,Ab false]):=hg.trans (by rw[S]);obtain ⟨n5,V,ac⟩:=aU ho n4 1;conv=>lhs;rw[U];cbv;(try (rw[e9];cbv));rw[V];cbv
   obtain ⟨y,J,ae,a0⟩:=aF g9.symm (show 0<=n5 by omega) (by omega);obtain ⟨⟨n6,n7,s2,n8,rfl⟩,hs⟩:=e _ a0;have hB:wP l1=(decide (n6=12) || decide (n6=11)):=by
    unfold wP;rw[show (l1.length:Int)-1=n5 by omega,J]
   have a3:o.cF l1 n5=some (.agg [.int .i64 n6,.int .i64 n7,.str s2,.int .i64 n8]):=ay ho (by omega) J;conv=>lhs;rw[a3];cbv
   subst Q;try rw[E]
   try rw[hc]
   try rw[S]
   clear e j hC hP;rw[I];unfold zl;simp_all
  have U:o.call 244 [.agg [As s1,Ai n1,Ai n2,Al l1]] []=Ar (.tup [Al l2,Ab true]):=hg.trans (by rw[S]);obtain ⟨n5,V,ac⟩:=aU ho n4 1;conv=>lhs;rw[U];cbv;(try (rw[e9];cbv));rw[V];cbv
  obtain ⟨y,J,ae,a0⟩:=aF g9.symm (show 0<=n5 by omega) (by omega);obtain ⟨⟨n6,n7,s2,n8,rfl⟩,hs⟩:=e _ a0;have hB:wP l1=(decide (n6=12) || decide (n6=11)):=by
   unfold wP;rw[show (l1.length:Int)-1=n5 by omega,J]
  have a3:o.cF l1 n5=some (.agg [.int .i64 n6,.int .i64 n7,.str s2,.int .i64 n8]):=ay ho (by omega) J;conv=>lhs;rw[a3];cbv
  rcases av ho n6 12 with ⟨a6,ag⟩|⟨a6,ag⟩<;>(conv=>lhs;rw[a6];cbv)
  ·rcases av ho n6 11 with ⟨a7,am⟩|⟨a7,am⟩<;>(conv=>lhs;rw[a7];cbv)
   all_goals
    subst Q;try rw[E]
    try rw[hc]
    try rw[S]
    clear e j hC hP;rw[I];unfold zl;simp_all
  subst Q;try rw[E]
  try rw[hc]
  try rw[S]
  clear e j hC hP;rw[I];unfold zl;simp_all
 subst Q;try rw[E]
 clear e j hC hP;rw[I];unfold zl;simp_all
theorem Li (a0_0 a0_1:Lq) (hK:jZ a0_0 a0_1) (q:Int) (S:(a0_0.length:Int)=q):∀i:Int,0<=i->i<=(q:Int)->o.loop 14500 (sD a0_0 a0_1 i)=some (if fR (Ig o a0_0 a0_1 true) i q then (.exit 0,pL)else (.ret,pN)):=by
 refine cM (P:=λi=>o.loop 14500 (sD a0_0 a0_1 i)=some (if fR (Ig o a0_0 a0_1 true) i q then (.exit 0,pL)else (.ret,pN))) (q:Int) ?_;intro i I U j;try dsimp only at j |-
 have O:=hK.2.1;refine ho.fA λR Q=> ?_
 obtain ⟨n1,J,g1⟩:=aC ho a0_0;conv=>lhs;cbv;rw[J];cbv
 rcases bn ho i n1 with ⟨E,g2⟩|⟨E,g2⟩<;>(conv=>lhs;rw[E];cbv)
 ·subst Q;rw[jb (by omega),if_pos rfl];rfl
 cases e:Ig o a0_0 a0_1 true i<;>(conv=>lhs;rw[Lh ho a0_0 a0_1 hK i I (by omega),e];cbv)
 ·subst Q;rw[nT (by omega) e];rfl
 obtain ⟨n2,M,V⟩:=bk ho i 1;conv=>lhs;rw[M];cbv
 subst Q;rw[mO (by omega) e];rw[show n2=i+1 by omega];exact j (by omega)
theorem sG (a0_0 a0_1:Lq) (hK:jZ a0_0 a0_1):o.call 145 [Ac a0_0 a0_1] []=Ar (Ab (eB o a0_0 a0_1 true)):=by
 refine ho.aL λR Q=> ?_
 obtain ⟨n1,E,g1⟩:=aC ho a0_0;conv=>lhs;cbv;rw[E];cbv
 rcases fB ho n1 12 with ⟨e,g2⟩|⟨e,g2⟩<;>(conv=>lhs;rw[e];cbv)
 ·obtain ⟨n2,I,g3⟩:=aC ho a0_1;conv=>lhs;rw[I];cbv
  rcases fB ho n2 2000 with ⟨j,J⟩|⟨j,J⟩<;>(conv=>lhs;rw[j];cbv)
  ·have hl:=Li ho a0_0 a0_1 hK _ g1.symm 0 (Int.le_refl _) (by omega);conv at hl=>lhs;cbv
   cases hc:fR (Ig o a0_0 a0_1 true) 0 n1<;>(conv=>lhs;rw[hl,hc];cbv)
   all_goals
    subst Q;clear hK;subst g1;unfold eB;first | (rw[decide_eq_false (by omega)];rfl) | (rw[decide_eq_true (by omega),decide_eq_false (by omega)];rfl) | (rw[decide_eq_true (by omega),decide_eq_true (by omega),hc];rfl)
  subst Q;clear hK;subst g1;unfold eB;first | (rw[decide_eq_false (by omega)];rfl) | (rw[decide_eq_true (by omega),decide_eq_false (by omega)];rfl) | (rw[decide_eq_true (by omega),decide_eq_true (by omega),hc];rfl)
 subst Q;clear hK;subst g1;unfold eB;first | (rw[decide_eq_false (by omega)];rfl) | (rw[decide_eq_true (by omega),decide_eq_false (by omega)];rfl) | (rw[decide_eq_true (by omega),decide_eq_true (by omega),hc];rfl)
end
end T2
