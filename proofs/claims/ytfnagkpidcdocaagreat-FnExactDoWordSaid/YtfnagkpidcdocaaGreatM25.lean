import Derived.Test.YtfnagkpidcdocaaGreatM24
set_option linter.all false
namespace T2
open Go Go.Vi
set_option maxRecDepth 100000
set_option maxHeartbeats 4000000
section
variable {o:aM} (ho:aQ cu bw o)
include ho
section
variable (fs st c_0 c_1:Lq) (hst:stk o st) (k:Int) (hk:k=(fs.length:Int)-1) (hk0:0<=k) (hkb:k<=100) (n3 n4:Int) (l1:Lq) (hf:fs[k.toNat]? =some (.agg [.int .i64 n3,.int .i64 n4,.lst l1])) (hSl:∀x∈l1,Sl o x) (h3:0<=n3) (s1:By) (n5 n6:Int) (l2:Lq) (hc:c_0[n3.toNat]? =some (.agg [.str s1,.int .i64 n5,.int .i64 n6,.lst l2])) (h4:0<=n4) (h4b:n4<=5000) (n7 n8:Int) (s2:By) (n9:Int) (hi:l2[n4.toNat]? =some (.agg [.int .i64 n7,.int .i64 n8,.str s2,.int .i64 n9])) (p1:Int) (hp1:p1=n4+1) (L4:Lq) (hL4:L4=fs.set k.toNat (.agg [.int .i64 n3,.int .i64 p1,.lst l1]))
include fs st c_0 c_1 hst k hk hk0 hkb n3 n4 l1 hf hSl h3 s1 n5 n6 l2 hc h4 h4b n7 n8 s2 n9 hi p1 hp1 L4 hL4
theorem LD (O:n7=1):o.call 100 [Ac c_0 c_1,.ptr (1,0) 0] [some (Ob (1,1) (1,2)),Op fs,Os st]=some ⟨.tup [.agg [Ai 0,Ai 0,As ⟨#[]⟩,.emp],Ai 7],[some (Ob (1,1) (0,0)),Op L4,none],[Os (st++[(.agg [.int .i64 1,.int .i64 n8,.str ⟨#[]⟩,.lst []])])]⟩:=by
 have hb:=hst.1;obtain ⟨n1,e1,g1⟩:=aC ho fs;obtain ⟨n2,S⟩:=kx (o.ar .sub .i64 n1 1);try have g2:n2=n1-1:=S.symm.trans (gj ho (by omega) (by omega))
 obtain rfl:n2=k:=by omega
 have U:n2.toNat<fs.length:=(ax.1 hf).1;have e3:=ay ho hk0 hf;have e4:=ay ho h3 hc;have e5:=ay ho h4 hi;obtain ⟨e,V⟩:=kx (o.ar .add .i64 n4 1);try have g6:e=n4+1:=V.symm.trans (dm ho (by omega) (by omega))
 obtain ⟨l3,rfl,e7⟩:∃z,z=L4/\o.set fs n2 (.agg [.int .i64 n3,.int .i64 e,.lst l1])=z:=⟨_,rfl,by rw[ho.set,hL4,show e=p1 by omega]⟩
 have a5:l3[n2.toNat]? =some (.agg [.int .i64 n3,.int .i64 p1,.lst l1]):=by rw[hL4];exact cq U
 have a4:l3.length=fs.length:=by rw[hL4,List.length_set]
 have e8:o.cmp .eql n7 8=false:=by first | assumption | exact bN ho (by omega)
 have g8:=lY ho e8;have e9:o.cmp .eql n7 9=false:=by first | assumption | exact bN ho (by omega)
 have g9:=lY ho e9;have j:o.cmp .eql n7 10=false:=by first | assumption | exact bN ho (by omega)
 have a6:=lY ho j;have E:o.cmp .eql n7 11=false:=by first | assumption | exact bN ho (by omega)
 have a7:=lY ho E;have I:o.cmp .eql n7 12=false:=by first | assumption | exact bN ho (by omega)
 have a8:=lY ho I;obtain ⟨a0,l4,ha,a1,a3⟩:∃a b,(0:Int)=a/\st++[(.agg [.int .i64 1,.int .i64 n8,.str ⟨#[]⟩,.lst []])]=b/\o.call 189 [.ptr (1,0) 0,.prow (1,1) (192,3) n2 0,.agg [Ai n7,Ai n8,As s2,Ai n9]] [some (Ob (1,1) (1,2)),Op l3,Os st]=some ⟨Ai a,[some (Ob (1,1) (0,0)),Op l3,none],[Os b]⟩:=⟨_,_,rfl,rfl,Rh ho l3 st hst n2 n7 n8 s2 n9 O⟩
 rcases cD ho a0 0 with ⟨J,M⟩|⟨J,M⟩
 ·rw[a1];exact (ho.aj (by cbv;repeat (simp only[e1,S,e3,e4,e5,V,e7,e8,e9,j,E,I,a3,J];try cbv)):o.call 100 [Ac c_0 c_1,.ptr (1,0) 0] [some (Ob (1,1) (1,2)),Op fs,Os st]=some ⟨.tup [.agg [Ai 0,Ai 0,As ⟨#[]⟩,.emp],Ai 7],[some (Ob (1,1) (0,0)),Op l3,none],[Os l4]⟩)
 exact absurd ha.symm M
theorem LF (O:n7=2):o.call 100 [Ac c_0 c_1,.ptr (1,0) 0] [some (Ob (1,1) (1,2)),Op fs,Os st]=some ⟨.tup [.agg [Ai 0,Ai 0,As ⟨#[]⟩,.emp],Ai 7],[some (Ob (1,1) (0,0)),Op L4,none],[Os (st++[(.agg [.int .i64 2,.int .i64 0,.str s2,.lst []])])]⟩:=by
 have hb:=hst.1;obtain ⟨n1,e1,g1⟩:=aC ho fs;obtain ⟨n2,S⟩:=kx (o.ar .sub .i64 n1 1);try have g2:n2=n1-1:=S.symm.trans (gj ho (by omega) (by omega))
 obtain rfl:n2=k:=by omega
 have U:n2.toNat<fs.length:=(ax.1 hf).1;have e3:=ay ho hk0 hf;have e4:=ay ho h3 hc;have e5:=ay ho h4 hi;obtain ⟨e,V⟩:=kx (o.ar .add .i64 n4 1);try have g6:e=n4+1:=V.symm.trans (dm ho (by omega) (by omega))
 obtain ⟨l3,rfl,e7⟩:∃z,z=L4/\o.set fs n2 (.agg [.int .i64 n3,.int .i64 e,.lst l1])=z:=⟨_,rfl,by rw[ho.set,hL4,show e=p1 by omega]⟩
 have a5:l3[n2.toNat]? =some (.agg [.int .i64 n3,.int .i64 p1,.lst l1]):=by rw[hL4];exact cq U
 have a4:l3.length=fs.length:=by rw[hL4,List.length_set]
 have e8:o.cmp .eql n7 8=false:=by first | assumption | exact bN ho (by omega)
 have g8:=lY ho e8;have e9:o.cmp .eql n7 9=false:=by first | assumption | exact bN ho (by omega)
 have g9:=lY ho e9;have j:o.cmp .eql n7 10=false:=by first | assumption | exact bN ho (by omega)
 have a6:=lY ho j;have E:o.cmp .eql n7 11=false:=by first | assumption | exact bN ho (by omega)
 have a7:=lY ho E;have I:o.cmp .eql n7 12=false:=by first | assumption | exact bN ho (by omega)
 have a8:=lY ho I;obtain ⟨a0,l4,ha,a1,a3⟩:∃a b,(0:Int)=a/\st++[(.agg [.int .i64 2,.int .i64 0,.str s2,.lst []])]=b/\o.call 189 [.ptr (1,0) 0,.prow (1,1) (192,3) n2 0,.agg [Ai n7,Ai n8,As s2,Ai n9]] [some (Ob (1,1) (1,2)),Op l3,Os st]=some ⟨Ai a,[some (Ob (1,1) (0,0)),Op l3,none],[Os b]⟩:=⟨_,_,rfl,rfl,Ri ho l3 st hst n2 n7 n8 s2 n9 O⟩
 rcases cD ho a0 0 with ⟨J,M⟩|⟨J,M⟩
 ·rw[a1];exact (ho.aj (by cbv;repeat (simp only[e1,S,e3,e4,e5,V,e7,e8,e9,j,E,I,a3,J];try cbv)):o.call 100 [Ac c_0 c_1,.ptr (1,0) 0] [some (Ob (1,1) (1,2)),Op fs,Os st]=some ⟨.tup [.agg [Ai 0,Ai 0,As ⟨#[]⟩,.emp],Ai 7],[some (Ob (1,1) (0,0)),Op l3,none],[Os l4]⟩)
 exact absurd ha.symm M
theorem LG (a3:n7=3) (h8:0<=n8) (e j:Int) (E:By) (I:Lq) (hx:l1[n8.toNat]? =some (.agg [.int .i64 e,.int .i64 j,.str E,.lst I])):o.call 100 [Ac c_0 c_1,.ptr (1,0) 0] [some (Ob (1,1) (1,2)),Op fs,Os st]=some (if cE (.agg [.int .i64 e,.int .i64 j,.str E,.lst I]) nB=true then ⟨.tup [.agg [Ai 0,Ai 0,As ⟨#[]⟩,.emp],Ai 1],[some (Ob (1,1) (1,2)),Op L4,Os st],[]⟩else ⟨.tup [.agg [Ai 0,Ai 0,As ⟨#[]⟩,.emp],Ai 7],[some (Ob (1,1) (0,0)),Op L4,none],[Os (st++[(.agg [.int .i64 e,.int .i64 j,.str E,.lst I])])]⟩):=by
 have hb:=hst.1;obtain ⟨n1,e1,g1⟩:=aC ho fs;obtain ⟨n2,e2⟩:=kx (o.ar .sub .i64 n1 1);try have g2:n2=n1-1:=e2.symm.trans (gj ho (by omega) (by omega))
 obtain rfl:n2=k:=by omega
 have a4:n2.toNat<fs.length:=(ax.1 hf).1;have e3:=ay ho hk0 hf;have e4:=ay ho h3 hc;have e5:=ay ho h4 hi;obtain ⟨S,e6⟩:=kx (o.ar .add .i64 n4 1);try have g6:S=n4+1:=e6.symm.trans (dm ho (by omega) (by omega))
 obtain ⟨l3,rfl,e7⟩:∃z,z=L4/\o.set fs n2 (.agg [.int .i64 n3,.int .i64 S,.lst l1])=z:=⟨_,rfl,by rw[ho.set,hL4,show S=p1 by omega]⟩
 have a5:l3[n2.toNat]? =some (.agg [.int .i64 n3,.int .i64 p1,.lst l1]):=by rw[hL4];exact cq a4
 have a7:l3.length=fs.length:=by rw[hL4,List.length_set]
 have e8:o.cmp .eql n7 8=false:=by first | assumption | exact bN ho (by omega)
 have g8:=lY ho e8;have e9:o.cmp .eql n7 9=false:=by first | assumption | exact bN ho (by omega)
 have g9:=lY ho e9;have U:o.cmp .eql n7 10=false:=by first | assumption | exact bN ho (by omega)
 have a8:=lY ho U;have V:o.cmp .eql n7 11=false:=by first | assumption | exact bN ho (by omega)
 have a9:=lY ho V;have a0:o.cmp .eql n7 12=false:=by first | assumption | exact bN ho (by omega)
 have aa:=lY ho a0;have hv:=Rj ho l3 st hst n2 n7 n8 s2 n9 a3 hk0 n3 p1 l1 a5 h8 e j E I hx (hSl _ (List.mem_of_getElem? hx));cases hz:cE (.agg [.int .i64 e,.int .i64 j,.str E,.lst I]) nB
 ·obtain ⟨M,l4,ha,a6,a1⟩:∃a b,(0:Int)=a/\st++[(.agg [.int .i64 e,.int .i64 j,.str E,.lst I])]=b/\o.call 189 [.ptr (1,0) 0,.prow (1,1) (192,3) n2 0,.agg [Ai n7,Ai n8,As s2,Ai n9]] [some (Ob (1,1) (1,2)),Op l3,Os st]=some ⟨Ai a,[some (Ob (1,1) (0,0)),Op l3,none],[Os b]⟩:=⟨_,_,rfl,rfl,by rw[hz]at hv;exact hv⟩
  rcases cD ho M 0 with ⟨J,O⟩|⟨J,O⟩
  ·rw[if_neg Bool.false_ne_true,a6];exact (ho.aj (by cbv;repeat (simp only[e1,e2,e3,e4,e5,e6,e7,e8,e9,U,V,a0,a1,J];try cbv)):o.call 100 [Ac c_0 c_1,.ptr (1,0) 0] [some (Ob (1,1) (1,2)),Op fs,Os st]=some ⟨.tup [.agg [Ai 0,Ai 0,As ⟨#[]⟩,.emp],Ai 7],[some (Ob (1,1) (0,0)),Op l3,none],[Os l4]⟩)
  exact absurd ha.symm O
 obtain ⟨M,ha,a1⟩:∃a,(1:Int)=a/\o.call 189 [.ptr (1,0) 0,.prow (1,1) (192,3) n2 0,.agg [Ai n7,Ai n8,As s2,Ai n9]] [some (Ob (1,1) (1,2)),Op l3,Os st]=some ⟨Ai a,[some (Ob (1,1) (1,2)),Op l3,Os st],[]⟩:=⟨_,rfl,by rw[hz]at hv;exact hv⟩
 rcases cD ho M 0 with ⟨J,O⟩|⟨J,O⟩
 ·omega
 rw[if_pos rfl,ha];exact (ho.aj (by cbv;repeat (simp only[e1,e2,e3,e4,e5,e6,e7,e8,e9,U,V,a0,a1,J];try cbv)):o.call 100 [Ac c_0 c_1,.ptr (1,0) 0] [some (Ob (1,1) (1,2)),Op fs,Os st]=some ⟨.tup [.agg [Ai 0,Ai 0,As ⟨#[]⟩,.emp],Ai M],[some (Ob (1,1) (1,2)),Op l3,Os st],[]⟩)
theorem LH (M:n7=4) (O:0<=n8) (S:n8<=20) (U:n8<=st.length):o.call 100 [Ac c_0 c_1,.ptr (1,0) 0] [some (Ob (1,1) (1,2)),Op fs,Os st]=some ⟨.tup [.agg [Ai 0,Ai 0,As ⟨#[]⟩,.emp],Ai (if (ig o 4 (st.drop ((st.length:Int)-n8).toNat)).2=0 then 7 else (ig o 4 (st.drop ((st.length:Int)-n8).toNat)).2)],[some (Ob (1,1) (0,0)),Op L4,none],[Os (if (ig o 4 (st.drop ((st.length:Int)-n8).toNat)).2=0 then st.take ((st.length:Int)-n8).toNat++[(ig o 4 (st.drop ((st.length:Int)-n8).toNat)).1]else st.take ((st.length:Int)-n8).toNat)]⟩:=by
 have hb:=hst.1;refine ho.aL λR Q=> ?_
 obtain ⟨n1,e1,g1⟩:=aC ho fs;obtain ⟨n2,e2,g2⟩:=aU ho n1 1;obtain rfl:n2=k:=by omega
 have V:n2.toNat<fs.length:=(ax.1 hf).1;have e:=ay ho hk0 hf;have e4:=ay ho h3 hc;have e5:=ay ho h4 hi;obtain ⟨E,e6,g6⟩:=bk ho n4 1;obtain ⟨l3,rfl,e7⟩:∃z,z=L4/\o.set fs n2 (.agg [.int .i64 n3,.int .i64 E,.lst l1])=z:=⟨_,rfl,by rw[ho.set,hL4,show E=p1 by omega]⟩
 have a4:l3[n2.toNat]? =some (.agg [.int .i64 n3,.int .i64 p1,.lst l1]):=by rw[hL4];exact cq V
 have a3:l3.length=fs.length:=by rw[hL4,List.length_set]
 conv=>lhs;cbv;rw[e1];cbv;rw[e2];cbv;rw[e];cbv;(try (rw[e];cbv));rw[e4];cbv;(try (rw[e];cbv));rw[e5];cbv;(try (rw[e];cbv));rw[e6];cbv;(try (rw[e];cbv));rw[e7];cbv
 iterate 5 (conv=>lhs;simp (disch:=omega) only [bN ho];cbv)
 obtain ⟨a0,l4,ha,I,a1⟩:∃a b,(ig o 4 (st.drop ((st.length:Int)-n8).toNat)).2=a/\(if (ig o 4 (st.drop ((st.length:Int)-n8).toNat)).2=0 then st.take ((st.length:Int)-n8).toNat++[(ig o 4 (st.drop ((st.length:Int)-n8).toNat)).1]else st.take ((st.length:Int)-n8).toNat)=b/\o.call 189 [.ptr (1,0) 0,.prow (1,1) (192,3) n2 0,.agg [Ai n7,Ai n8,As s2,Ai n9]] [some (Ob (1,1) (1,2)),Op l3,Os st]=some ⟨Ai a,[some (Ob (1,1) (0,0)),Op l3,none],[Os b]⟩:=⟨_,_,rfl,rfl,Rk ho l3 st hst n2 n7 n8 s2 n9 M O S U⟩
 conv=>lhs;rw[a1];cbv
 rcases cD ho a0 0 with ⟨J,j⟩|⟨J,j⟩<;>(conv=>lhs;rw[J];cbv)
 ·subst Q;rw[I,ha];rw[if_pos j];try rfl
 subst Q;rw[I,ha];rw[if_neg j];try rfl
theorem LI (M:n7=5) (O:0<=n8) (S:n8<=20) (U:n8<=st.length):o.call 100 [Ac c_0 c_1,.ptr (1,0) 0] [some (Ob (1,1) (1,2)),Op fs,Os st]=some ⟨.tup [.agg [Ai 0,Ai 0,As ⟨#[]⟩,.emp],Ai (if (ig o 5 (st.drop ((st.length:Int)-n8).toNat)).2=0 then 7 else (ig o 5 (st.drop ((st.length:Int)-n8).toNat)).2)],[some (Ob (1,1) (0,0)),Op L4,none],[Os (if (ig o 5 (st.drop ((st.length:Int)-n8).toNat)).2=0 then st.take ((st.length:Int)-n8).toNat++[(ig o 5 (st.drop ((st.length:Int)-n8).toNat)).1]else st.take ((st.length:Int)-n8).toNat)]⟩:=by
 have hb:=hst.1;refine ho.aL λR Q=> ?_
 obtain ⟨n1,e1,g1⟩:=aC ho fs;obtain ⟨n2,e2,g2⟩:=aU ho n1 1;obtain rfl:n2=k:=by omega
 have V:n2.toNat<fs.length:=(ax.1 hf).1;have e:=ay ho hk0 hf;have e4:=ay ho h3 hc;have e5:=ay ho h4 hi;obtain ⟨E,e6,g6⟩:=bk ho n4 1;obtain ⟨l3,rfl,e7⟩:∃z,z=L4/\o.set fs n2 (.agg [.int .i64 n3,.int .i64 E,.lst l1])=z:=⟨_,rfl,by rw[ho.set,hL4,show E=p1 by omega]⟩
 have a4:l3[n2.toNat]? =some (.agg [.int .i64 n3,.int .i64 p1,.lst l1]):=by rw[hL4];exact cq V
 have a3:l3.length=fs.length:=by rw[hL4,List.length_set]
 conv=>lhs;cbv;rw[e1];cbv;rw[e2];cbv;rw[e];cbv;(try (rw[e];cbv));rw[e4];cbv;(try (rw[e];cbv));rw[e5];cbv;(try (rw[e];cbv));rw[e6];cbv;(try (rw[e];cbv));rw[e7];cbv
 iterate 5 (conv=>lhs;simp (disch:=omega) only [bN ho];cbv)
 obtain ⟨a0,l4,ha,I,a1⟩:∃a b,(ig o 5 (st.drop ((st.length:Int)-n8).toNat)).2=a/\(if (ig o 5 (st.drop ((st.length:Int)-n8).toNat)).2=0 then st.take ((st.length:Int)-n8).toNat++[(ig o 5 (st.drop ((st.length:Int)-n8).toNat)).1]else st.take ((st.length:Int)-n8).toNat)=b/\o.call 189 [.ptr (1,0) 0,.prow (1,1) (192,3) n2 0,.agg [Ai n7,Ai n8,As s2,Ai n9]] [some (Ob (1,1) (1,2)),Op l3,Os st]=some ⟨Ai a,[some (Ob (1,1) (0,0)),Op l3,none],[Os b]⟩:=⟨_,_,rfl,rfl,Rm ho l3 st hst n2 n7 n8 s2 n9 M O S U⟩
 conv=>lhs;rw[a1];cbv
 rcases cD ho a0 0 with ⟨J,j⟩|⟨J,j⟩<;>(conv=>lhs;rw[J];cbv)
 ·subst Q;rw[I,ha];rw[if_pos j];try rfl
 subst Q;rw[I,ha];rw[if_neg j];try rfl
theorem LJ (M:n7=6) (O:1<=n8) (S:n8<=20) (U:n8<=st.length):o.call 100 [Ac c_0 c_1,.ptr (1,0) 0] [some (Ob (1,1) (1,2)),Op fs,Os st]=some ⟨.tup [.agg [Ai 0,Ai 0,As ⟨#[]⟩,.emp],Ai (if (ig o 6 (st.drop ((st.length:Int)-n8).toNat)).2=0 then 7 else (ig o 6 (st.drop ((st.length:Int)-n8).toNat)).2)],[some (Ob (1,1) (0,0)),Op L4,none],[Os (if (ig o 6 (st.drop ((st.length:Int)-n8).toNat)).2=0 then st.take ((st.length:Int)-n8).toNat++[(ig o 6 (st.drop ((st.length:Int)-n8).toNat)).1]else st.take ((st.length:Int)-n8).toNat)]⟩:=by
 have hb:=hst.1;refine ho.aL λR Q=> ?_
 obtain ⟨n1,e1,g1⟩:=aC ho fs;obtain ⟨n2,e2,g2⟩:=aU ho n1 1;obtain rfl:n2=k:=by omega
 have V:n2.toNat<fs.length:=(ax.1 hf).1;have e:=ay ho hk0 hf;have e4:=ay ho h3 hc;have e5:=ay ho h4 hi;obtain ⟨E,e6,g6⟩:=bk ho n4 1;obtain ⟨l3,rfl,e7⟩:∃z,z=L4/\o.set fs n2 (.agg [.int .i64 n3,.int .i64 E,.lst l1])=z:=⟨_,rfl,by rw[ho.set,hL4,show E=p1 by omega]⟩
 have a4:l3[n2.toNat]? =some (.agg [.int .i64 n3,.int .i64 p1,.lst l1]):=by rw[hL4];exact cq V
 have a3:l3.length=fs.length:=by rw[hL4,List.length_set]
 conv=>lhs;cbv;rw[e1];cbv;rw[e2];cbv;rw[e];cbv;(try (rw[e];cbv));rw[e4];cbv;(try (rw[e];cbv));rw[e5];cbv;(try (rw[e];cbv));rw[e6];cbv;(try (rw[e];cbv));rw[e7];cbv
 iterate 5 (conv=>lhs;simp (disch:=omega) only [bN ho];cbv)
 obtain ⟨a0,l4,ha,I,a1⟩:∃a b,(ig o 6 (st.drop ((st.length:Int)-n8).toNat)).2=a/\(if (ig o 6 (st.drop ((st.length:Int)-n8).toNat)).2=0 then st.take ((st.length:Int)-n8).toNat++[(ig o 6 (st.drop ((st.length:Int)-n8).toNat)).1]else st.take ((st.length:Int)-n8).toNat)=b/\o.call 189 [.ptr (1,0) 0,.prow (1,1) (192,3) n2 0,.agg [Ai n7,Ai n8,As s2,Ai n9]] [some (Ob (1,1) (1,2)),Op l3,Os st]=some ⟨Ai a,[some (Ob (1,1) (0,0)),Op l3,none],[Os b]⟩:=⟨_,_,rfl,rfl,Rn ho l3 st hst n2 n7 n8 s2 n9 M O S U⟩
 conv=>lhs;rw[a1];cbv
 rcases cD ho a0 0 with ⟨J,j⟩|⟨J,j⟩<;>(conv=>lhs;rw[J];cbv)
 ·subst Q;rw[I,ha];rw[if_pos j];try rfl
 subst Q;rw[I,ha];rw[if_neg j];try rfl
theorem LL (a4:n7=7) (a5:2<=(st.length:Int)) (e j:Int) (E:By) (I:Lq) (hA:(st.drop ((st.length:Int)-2).toNat)[0]? =some (.agg [.int .i64 e,.int .i64 j,.str E,.lst I])) (J M:Int) (O:By) (S:Lq) (hB:(st.drop ((st.length:Int)-2).toNat)[1]? =some (.agg [.int .i64 J,.int .i64 M,.str O,.lst S])):o.call 100 [Ac c_0 c_1,.ptr (1,0) 0] [some (Ob (1,1) (1,2)),Op fs,Os st]=some ⟨.tup [.agg [Ai 0,Ai 0,As ⟨#[]⟩,.emp],Ai (if (CN o s2 (.agg [.int .i64 e,.int .i64 j,.str E,.lst I]) (.agg [.int .i64 J,.int .i64 M,.str O,.lst S])).2=0 then 7 else (CN o s2 (.agg [.int .i64 e,.int .i64 j,.str E,.lst I]) (.agg [.int .i64 J,.int .i64 M,.str O,.lst S])).2)],[some (Ob (1,1) (0,0)),Op L4,none],[Os (if (CN o s2 (.agg [.int .i64 e,.int .i64 j,.str E,.lst I]) (.agg [.int .i64 J,.int .i64 M,.str O,.lst S])).2=0 then st.take ((st.length:Int)-2).toNat++[(CN o s2 (.agg [.int .i64 e,.int .i64 j,.str E,.lst I]) (.agg [.int .i64 J,.int .i64 M,.str O,.lst S])).1]else st.take ((st.length:Int)-2).toNat)]⟩:=by
 have hb:=hst.1;refine ho.aL λR Q=> ?_
 obtain ⟨n1,e1,g1⟩:=aC ho fs;obtain ⟨n2,e2,g2⟩:=aU ho n1 1;obtain rfl:n2=k:=by omega
 have a6:n2.toNat<fs.length:=(ax.1 hf).1;have U:=ay ho hk0 hf;have e4:=ay ho h3 hc;have e5:=ay ho h4 hi;obtain ⟨a0,e6,g6⟩:=bk ho n4 1;obtain ⟨l3,rfl,e7⟩:∃z,z=L4/\o.set fs n2 (.agg [.int .i64 n3,.int .i64 a0,.lst l1])=z:=⟨_,rfl,by rw[ho.set,hL4,show a0=p1 by omega]⟩
 have aa:l3[n2.toNat]? =some (.agg [.int .i64 n3,.int .i64 p1,.lst l1]):=by rw[hL4];exact cq a6
 have a9:l3.length=fs.length:=by rw[hL4,List.length_set]
 conv=>lhs;cbv;rw[e1];cbv;rw[e2];cbv;rw[U];cbv;(try (rw[U];cbv));rw[e4];cbv;(try (rw[U];cbv));rw[e5];cbv;(try (rw[U];cbv));rw[e6];cbv;(try (rw[U];cbv));rw[e7];cbv
 iterate 5 (conv=>lhs;simp (disch:=omega) only [bN ho];cbv)
 obtain ⟨a7,l4,ha,a1,a8⟩:∃a b,(CN o s2 (.agg [.int .i64 e,.int .i64 j,.str E,.lst I]) (.agg [.int .i64 J,.int .i64 M,.str O,.lst S])).2=a/\(if (CN o s2 (.agg [.int .i64 e,.int .i64 j,.str E,.lst I]) (.agg [.int .i64 J,.int .i64 M,.str O,.lst S])).2=0 then st.take ((st.length:Int)-2).toNat++[(CN o s2 (.agg [.int .i64 e,.int .i64 j,.str E,.lst I]) (.agg [.int .i64 J,.int .i64 M,.str O,.lst S])).1]else st.take ((st.length:Int)-2).toNat)=b/\o.call 189 [.ptr (1,0) 0,.prow (1,1) (192,3) n2 0,.agg [Ai n7,Ai n8,As s2,Ai n9]] [some (Ob (1,1) (1,2)),Op l3,Os st]=some ⟨Ai a,[some (Ob (1,1) (0,0)),Op l3,none],[Os b]⟩:=⟨_,_,rfl,rfl,Ro ho l3 st hst n2 n7 n8 s2 n9 a4 a5 _ _ _ _ hA _ _ _ _ hB⟩
 conv=>lhs;rw[a8];cbv
 rcases cD ho a7 0 with ⟨a3,V⟩|⟨a3,V⟩<;>(conv=>lhs;rw[a3];cbv)
 ·subst Q;rw[a1,ha];rw[if_pos V];try rfl
 subst Q;rw[a1,ha];rw[if_neg V];try rfl
theorem LM (b3:n7=8) (hC:∀x∈c_0,v7 x) (hCb:(c_0.length:Int)<=1048576) (at':Int) (a1:iB c_0 s2=at') (q0:By) (m1 e:Int) (q1:Lq) (a3:0<=at') (hx:c_0[at'.toNat]? =some (.agg [.str q0,.int .i64 m1,.int .i64 e,.lst q1])) (b4:n8<=e) (a4:e<=400) (b5:0<=n8) (b6:n8<=st.length) (S:∀x∈fs,x.cells.length=3) (b7:(fs.length:Int)<=40):o.call 100 [Ac c_0 c_1,.ptr (1,0) 0] [some (Ob (1,1) (1,2)),Op fs,Os st]=some (if (fs.length:Int)=40 then ⟨.tup [.agg [Ai 0,Ai 0,As ⟨#[]⟩,.emp],Ai 5],[some (Ob (1,1) (1,2)),Op L4,Os st],[]⟩else ⟨.tup [.agg [Ai 0,Ai 0,As ⟨#[]⟩,.emp],Ai 7],[some (Ob (0,0) (0,1)),none,none],[Op (L4++[(.agg [.int .i64 at',.int .i64 0,.lst (cU e (st.drop ((st.length:Int)-n8).toNat))])]),Os (st.take ((st.length:Int)-n8).toNat)]⟩):=by
 have hb:=hst.1;refine ho.aL λR Q=> ?_
 obtain ⟨n1,e1,g1⟩:=aC ho fs;obtain ⟨n2,e2,g2⟩:=aU ho n1 1;obtain rfl:n2=k:=by omega
 have a5:n2.toNat<fs.length:=(ax.1 hf).1;have J:=ay ho hk0 hf;have e4:=ay ho h3 hc;have e5:=ay ho h4 hi;obtain ⟨U,e6,g6⟩:=bk ho n4 1;obtain ⟨l3,rfl,e7⟩:∃z,z=L4/\o.set fs n2 (.agg [.int .i64 n3,.int .i64 U,.lst l1])=z:=⟨_,rfl,by rw[ho.set,hL4,show U=p1 by omega]⟩
 have b8:l3[n2.toNat]? =some (.agg [.int .i64 n3,.int .i64 p1,.lst l1]):=by rw[hL4];exact cq a5
 have b2:l3.length=fs.length:=by rw[hL4,List.length_set]
 obtain ⟨a6,e9,g9⟩:=aC ho l3;conv=>lhs;cbv;rw[e1];cbv;rw[e2];cbv;rw[J];cbv;(try (rw[J];cbv));rw[e4];cbv;(try (rw[J];cbv));rw[e5];cbv;(try (rw[J];cbv));rw[e6];cbv;(try (rw[J];cbv));rw[e7];cbv;simp (disch:=omega) only [cX ho];cbv;rw[e9];cbv
 rcases av ho a6 40 with ⟨V,a7⟩|⟨V,a7⟩<;>(conv=>lhs;rw[V];cbv)
 ·obtain ⟨I,l5,M,a8,a9⟩:∃a b,a=st.drop ((st.length:Int)-n8).toNat/\b=st.take ((st.length:Int)-n8).toNat/\o.call 186 [.ptr (1,0) 0,Ai n8] [some (Ob (1,1) (1,2)),Op l3,Os st]=some ⟨.arr (0,0) (31,4) none false,[some (Ob (1,1) (0,1)),Op l3,none],[Os a,Os b]⟩:=⟨_,_,rfl,rfl,Ee ho l3 st n8 hst (by omega) (by omega) _ rfl⟩
  have aa:stk o I:=by rw[M];exact jh hst
  conv=>lhs;rw[a9];cbv
  have ac:o.fits 3 40 l3=true:=by exact cW ho (by omega) (by decide) (λz O=>by
   rw[hL4]at O;rcases List.mem_or_eq_of_mem_set O with h | h
   ·exact S z h
   rw[h];rfl)
  obtain ⟨E,a0,ae⟩:∃E,E=at'/\o.call 85 [Ac c_0 c_1,As s2] []=Ar (Ai E):=⟨_,rfl,(tZ ho c_0 c_1 s2 hC hCb).trans (by rw[a1])⟩
  have ag:(I.length:Int)<=e:=by rw[M,List.length_drop];omega
  obtain ⟨am,an,l6,⟨ao,ap,aw⟩,az⟩:∃a b c,(a=at'/\b=0/\c=cU e I)/\o.call 187 [Ac c_0 c_1,Ai E,Al I] []=Ar (.agg [Ai a,Ai b,Al c]):=⟨_,_,_,⟨rfl,rfl,rfl⟩,by rw[a0];exact Ao ho c_0 c_1 at' I q0 m1 e q1 a3 hx ag a4 aa.2⟩
  obtain ⟨l7,j,b0⟩:∃z,z=l3++[(.agg [.int .i64 at',.int .i64 0,.lst (cU e I)])]/\o.app l3 [.agg [.int .i64 am,.int .i64 an,.lst l6]]=z:=⟨_,rfl,(ho.app _ _).trans (by rw[ao,ap,aw])⟩
  conv=>lhs;rw[ac];cbv;rw[ae];cbv;rw[az];cbv;rw[b0];cbv
  have b1:o.fits 3 40 l7=true:=cW ho (by rw[j,List.length_append];simp only[List.length_cons,List.length_nil];omega) (by decide) (λz O=>by
   rw[j]at O;rcases List.mem_append.1 O with h | h
   ·rw[hL4]at h;rcases List.mem_or_eq_of_mem_set h with h | h
    ·exact S z h
    rw[h];rfl
   rw[List.mem_singleton.1 h];rfl)
  conv=>lhs;rw[b1];cbv
  subst Q;rw[if_neg (by omega),<-M,<-a8,<-j];try rfl
 subst Q;rw[if_pos (by omega)];try rfl
theorem LN (bs:n7=9) (h1:1<=(st.length:Int)) (J M:Int) (O:By) (S:Lq) (ht:st[((st.length:Int)-1).toNat]? =some (.agg [.int .i64 J,.int .i64 M,.str O,.lst S])) (sl:Int) (hS:(l1.length:Int)=sl) (bt:sl<=400) (an:0<=n8) (e j:Int) (E:By) (I:Lq) (hp:c_1[n8.toNat]? =some (.agg [.int .i64 e,.int .i64 j,.str E,.lst I])) {m:Nat} (hP:Tm m (.agg [.int .i64 e,.int .i64 j,.str E,.lst I])) (hM:dM o sl 10 (.agg [.int .i64 e,.int .i64 j,.str E,.lst I])<=300):o.call 100 [Ac c_0 c_1,.ptr (1,0) 0] [some (Ob (1,1) (1,2)),Op fs,Os st]=some (if (aH 10 (.agg [.int .i64 e,.int .i64 j,.str E,.lst I]) (.agg [.int .i64 J,.int .i64 M,.str O,.lst S]) l1).1=true then ⟨.tup [.agg [Ai 0,Ai 0,As ⟨#[]⟩,.emp],Ai 7],[some (Ob (1,1) (0,0)),Op (fs.set k.toNat (.agg [.int .i64 n3,.int .i64 p1,.lst (aH 10 (.agg [.int .i64 e,.int .i64 j,.str E,.lst I]) (.agg [.int .i64 J,.int .i64 M,.str O,.lst S]) l1).2])),none],[Os (st.take ((st.length:Int)-1).toNat)]⟩else ⟨.tup [.agg [Ai 0,Ai 0,As ⟨#[]⟩,.emp],Ai 7],[some (Ob (1,1) (1,2)),Op (fs.set k.toNat (.agg [.int .i64 n3,.int .i64 n9,.lst l1])),Os st],[]⟩):=by
 have hb:=hst.1;refine ho.aL λR Q=> ?_
 obtain ⟨n1,e1,g1⟩:=aC ho fs;obtain ⟨n2,e2,g2⟩:=aU ho n1 1;obtain rfl:n2=k:=by omega
 have ao:n2.toNat<fs.length:=(ax.1 hf).1;have e3:=ay ho hk0 hf;have e4:=ay ho h3 hc;have e5:=ay ho h4 hi;obtain ⟨aa,e6,g6⟩:=bk ho n4 1;obtain ⟨l3,rfl,e7⟩:∃z,z=L4/\o.set fs n2 (.agg [.int .i64 n3,.int .i64 aa,.lst l1])=z:=⟨_,rfl,by rw[ho.set,hL4,show aa=p1 by omega]⟩
 have ap:l3[n2.toNat]? =some (.agg [.int .i64 n3,.int .i64 p1,.lst l1]):=by rw[hL4];exact cq ao
 have bo:l3.length=fs.length:=by rw[hL4,List.length_set]
 conv=>lhs;cbv;rw[e1];cbv;rw[e2];cbv;rw[e3];cbv;(try (rw[e3];cbv));rw[e4];cbv;(try (rw[e3];cbv));rw[e5];cbv;(try (rw[e3];cbv));rw[e6];cbv;(try (rw[e3];cbv));rw[e7];cbv
 iterate 2 (conv=>lhs;simp (disch:=omega) only [bN ho,cX ho];cbv)
 obtain ⟨ac,aw,l4,⟨ae,az,a1⟩,a3⟩:∃a b c,(a=n3/\b=p1/\c=l1)/\o.cF l3 n2=some (.agg [.int .i64 a,.int .i64 b,.lst c]):=⟨_,_,_,⟨rfl,rfl,rfl⟩,ay ho hk0 ap⟩
 have b0:o.fits 4 56 l4=true:=by rw[a1];exact cW ho (by omega) (by decide) (λz hz=>Q_ (hSl z hz))
 obtain ⟨a4,a5,s3,l5,⟨b1,b2,b3,b4⟩,b5⟩:∃a b c d,(a=e/\b=j/\c=E/\d=I)/\o.cF c_1 n8=some (.agg [.int .i64 a,.int .i64 b,.str c,.lst d]):=⟨_,_,_,_,⟨rfl,rfl,rfl,rfl⟩,ay ho an hp⟩
 obtain ⟨b6,b7,bu⟩:=aC ho st;obtain ⟨ag,b8,bv⟩:=aU ho b6 1;obtain ⟨a6,a7,s4,l6,⟨b9,bb,bc,bd⟩,am⟩:∃a b c d,(a=J/\b=M/\c=O/\d=S)/\o.cF st ag=some (.agg [.int .i64 a,.int .i64 b,.str c,.lst d]):=⟨_,_,_,_,⟨rfl,rfl,rfl,rfl⟩,ay ho (by omega) (by rw[show ag=(st.length:Int)-1 by omega];exact ht)⟩
 conv=>lhs;rw[a3];cbv;rw[b0];cbv;rw[b5];cbv;rw[b7];cbv;rw[b8];cbv;rw[am];cbv;(try (rw[am];cbv))
 have be:Rt o 8 (.agg [.int .i64 J,.int .i64 M,.str O,.lst S]):=hst.2 _ (List.mem_of_getElem? ht);have U:=match_ ho sl 10 _ _ _ _ _ hP hM _ _ _ _ be l1 hS hSl;obtain ⟨l7,bi,U⟩:∃z,z=(aH 10 (.agg [.int .i64 e,.int .i64 j,.str E,.lst I]) (.agg [.int .i64 J,.int .i64 M,.str O,.lst S]) l1).2/\o.call 188 [At a4 a5 s3 l5,At a6 a7 s4 l6,.arr (1,0) (31,4) none false] [Os l4]=some ⟨Ab (aH 10 (.agg [.int .i64 e,.int .i64 j,.str E,.lst I]) (.agg [.int .i64 J,.int .i64 M,.str O,.lst S]) l1).1,[Os z],[]⟩:=⟨_,rfl,by rw[b9,bb,bc,bd,b1,b2,b3,b4,a1];exact U⟩
 cases a0:(aH 10 (.agg [.int .i64 e,.int .i64 j,.str E,.lst I]) (.agg [.int .i64 J,.int .i64 M,.str O,.lst S]) l1).1
 ·have a8:o.call 188 [At a4 a5 s3 l5,At a6 a7 s4 l6,.arr (1,0) (31,4) none false] [Os l4]=some ⟨Ab false,[Os l7],[]⟩:=by rw[a0]at U;exact U
  obtain ⟨l8,V,a9⟩:∃z,z=fs.set n2.toNat (.agg [.int .i64 n3,.int .i64 n9,.lst l1])/\o.set l3 n2 (.agg [.int .i64 ac,.int .i64 n9,.lst l4])=z:=⟨_,rfl,by rw[ho.set,hL4,List.set_set,ae,a1]⟩
  conv=>lhs;rw[a8];cbv;(try (rw[a3];cbv));rw[a9];cbv
  subst Q;try rw[a0]
  rw[if_neg Bool.false_ne_true,<-V];try rfl
 have a8:o.call 188 [At a4 a5 s3 l5,At a6 a7 s4 l6,.arr (1,0) (31,4) none false] [Os l4]=some ⟨Ab true,[Os l7],[]⟩:=by rw[a0]at U;exact U
 obtain ⟨l8,V,a9⟩:∃z,z=fs.set n2.toNat (.agg [.int .i64 n3,.int .i64 p1,.lst l7])/\o.set l3 n2 (.agg [.int .i64 ac,.int .i64 aw,.lst l7])=z:=⟨_,rfl,by rw[ho.set,hL4,List.set_set,ae,az]⟩
 obtain ⟨l9,bz,bj,bl,bm⟩:∃a b,a=st.drop ((st.length:Int)-1).toNat/\b=st.take ((st.length:Int)-1).toNat/\o.call 186 [.ptr (1,0) 0,Ai 1] [some (Ob (1,1) (1,2)),Op l8,Os st]=some ⟨.arr (0,0) (31,4) none false,[some (Ob (1,1) (0,1)),Op l8,none],[Os a,Os b]⟩:=⟨_,_,rfl,rfl,Ee ho l8 st 1 hst (by omega) (by omega) _ rfl⟩
 have c0:stk o l9:=by rw[bj];exact jh hst
 conv=>lhs;rw[a8];cbv;(try (rw[a3];cbv));rw[a9];cbv;rw[bm];cbv
 subst Q;try rw[a0]
 rw[if_pos rfl,<-bi,<-V,<-bl];try rfl
theorem Iq (a1:n7=10):o.call 100 [Ac c_0 c_1,.ptr (1,0) 0] [some (Ob (1,1) (1,2)),Op fs,Os st]=some ⟨.tup [.agg [Ai 0,Ai 0,As ⟨#[]⟩,.emp],Ai 7],[some (Ob (1,1) (1,2)),Op (fs.set k.toNat (.agg [.int .i64 n3,.int .i64 n9,.lst l1])),Os st],[]⟩:=by
 have hb:=hst.1;refine ho.aL λR Q=> ?_
 obtain ⟨n1,e1,g1⟩:=aC ho fs;obtain ⟨n2,e2,g2⟩:=aU ho n1 1;obtain rfl:n2=k:=by omega
 have I:n2.toNat<fs.length:=(ax.1 hf).1;have e:=ay ho hk0 hf;have e4:=ay ho h3 hc;have e5:=ay ho h4 hi;obtain ⟨j,e6,g6⟩:=bk ho n4 1;obtain ⟨l3,rfl,e7⟩:∃z,z=L4/\o.set fs n2 (.agg [.int .i64 n3,.int .i64 j,.lst l1])=z:=⟨_,rfl,by rw[ho.set,hL4,show j=p1 by omega]⟩
 have J:l3[n2.toNat]? =some (.agg [.int .i64 n3,.int .i64 p1,.lst l1]):=by rw[hL4];exact cq I
 have a0:l3.length=fs.length:=by rw[hL4,List.length_set]
 conv=>lhs;cbv;rw[e1];cbv;rw[e2];cbv;rw[e];cbv;(try (rw[e];cbv));rw[e4];cbv;(try (rw[e];cbv));rw[e5];cbv;(try (rw[e];cbv));rw[e6];cbv;(try (rw[e];cbv));rw[e7];cbv
 iterate 3 (conv=>lhs;simp (disch:=omega) only [bN ho,cX ho];cbv)
 obtain ⟨M,a3,l4,⟨O,a4,S⟩,U⟩:∃a b c,(a=n3/\b=p1/\c=l1)/\o.cF l3 n2=some (.agg [.int .i64 a,.int .i64 b,.lst c]):=⟨_,_,_,⟨rfl,rfl,rfl⟩,ay ho hk0 J⟩
 obtain ⟨l5,E,V⟩:∃z,z=fs.set n2.toNat (.agg [.int .i64 n3,.int .i64 n9,.lst l1])/\o.set l3 n2 (.agg [.int .i64 M,.int .i64 n9,.lst l4])=z:=⟨_,rfl,by rw[ho.set,hL4,List.set_set,O,S]⟩
 conv=>lhs;rw[U];cbv;rw[V];cbv
 subst Q;rw[<-E];try rfl
theorem Ir (a0:n7=11):o.call 100 [Ac c_0 c_1,.ptr (1,0) 0] [some (Ob (1,1) (1,2)),Op fs,Os st]=some ⟨.tup [.agg [Ai 0,Ai 0,As ⟨#[]⟩,.emp],Ai 2],[some (Ob (1,1) (1,2)),Op L4,Os st],[]⟩:=by
 have hb:=hst.1;refine ho.aL λR Q=> ?_
 obtain ⟨n1,J,g1⟩:=aC ho fs;obtain ⟨n2,M,g2⟩:=aU ho n1 1;obtain rfl:n2=k:=by omega
 have E:n2.toNat<fs.length:=(ax.1 hf).1;have e:=ay ho hk0 hf;have O:=ay ho h3 hc;have S:=ay ho h4 hi;obtain ⟨j,U,g6⟩:=bk ho n4 1;obtain ⟨l3,rfl,V⟩:∃z,z=L4/\o.set fs n2 (.agg [.int .i64 n3,.int .i64 j,.lst l1])=z:=⟨_,rfl,by rw[ho.set,hL4,show j=p1 by omega]⟩
 have a1:l3[n2.toNat]? =some (.agg [.int .i64 n3,.int .i64 p1,.lst l1]):=by rw[hL4];exact cq E
 have I:l3.length=fs.length:=by rw[hL4,List.length_set]
 conv=>lhs;cbv;rw[J];cbv;rw[M];cbv;rw[e];cbv;(try (rw[e];cbv));rw[O];cbv;(try (rw[e];cbv));rw[S];cbv;(try (rw[e];cbv));rw[U];cbv;(try (rw[e];cbv));rw[V];cbv
 iterate 4 (conv=>lhs;simp (disch:=omega) only [bN ho,cX ho];cbv)
 subst Q;rfl
theorem Iu (b1:n7=12) (h1:1<=(st.length:Int)) (j E:Int) (I:By) (J:Lq) (ht:st[((st.length:Int)-1).toNat]? =some (.agg [.int .i64 j,.int .i64 E,.str I,.lst J])):o.call 100 [.agg [.d (.lst c_0),.d (.lst c_1)],.ptr (1,0) 0] [some (.box [.arr (1,1) (192,3) none false,.arr (1,2) (31,4) none false]),some (.rows (192,3) fs),some (.rows (31,4) st)]=some (if k=0 then ⟨.tup [.agg [.d (.int .i64 j),.d (.int .i64 E),.d (.str I),.d (.lst J)],.d (.int .i64 0)],[some (.box [.arr (0,0) (192,3) none false,.arr (0,1) (31,4) none false]),none,none],[some (.rows (192,3) (fs.take k.toNat)),some (.rows (31,4) (st.take ((st.length:Int)-1).toNat))]⟩else ⟨.tup [.agg [.d (.int .i64 0),.d (.int .i64 0),.d (.str ⟨#[]⟩),.emp],.d (.int .i64 7)],[some (.box [.arr (0,0) (192,3) none false,.arr (1,2) (31,4) none false]),none,some (.rows (31,4) st)],[some (.rows (192,3) (fs.take k.toNat))]⟩):=by
 have hb:=hst.1;refine ho.aL λR Q=> ?_
 obtain ⟨n1,e1,g1⟩:=aC ho fs;obtain ⟨n2,e2,g2⟩:=aU ho n1 1;obtain rfl:n2=k:=by omega
 have a6:n2.toNat<fs.length:=(ax.1 hf).1;have M:=ay ho hk0 hf;have e4:=ay ho h3 hc;have e5:=ay ho h4 hi;obtain ⟨U,e6,g6⟩:=bk ho n4 1;obtain ⟨l3,rfl,e7⟩:∃z,z=L4/\o.set fs n2 (.agg [.int .i64 n3,.int .i64 U,.lst l1])=z:=⟨_,rfl,by rw[ho.set,hL4,show U=p1 by omega]⟩
 have b2:l3[n2.toNat]? =some (.agg [.int .i64 n3,.int .i64 p1,.lst l1]):=by rw[hL4];exact cq a6
 have az:l3.length=fs.length:=by rw[hL4,List.length_set]
 conv=>lhs;cbv;rw[e1];cbv;rw[e2];cbv;rw[M];cbv;(try (rw[M];cbv));rw[e4];cbv;(try (rw[M];cbv));rw[e5];cbv;(try (rw[M];cbv));rw[e6];cbv;(try (rw[M];cbv));rw[e7];cbv
 iterate 5 (conv=>lhs;simp (disch:=omega) only [bN ho,cX ho];cbv)
 obtain ⟨a7,a8,b3⟩:=aC ho l3;obtain ⟨V,a9,b4⟩:=aU ho a7 1;obtain ⟨a0,b5,e⟩:∃v,v=V-0/\o.minus V 0=v:=⟨_,rfl,ho.minus _ _⟩
 obtain ⟨O,S,a1⟩:∃z,z=fs.take n2.toNat/\o.sub l3 0 a0=some z:=⟨_,rfl,by rw[iy ho (Int.le_refl _) (by omega) (by omega),show a0=n2 by omega,hL4];exact congrArg some (by rw[show (0:Int).toNat=0 from rfl,List.drop_zero,List.take_set_of_le (Nat.le_refl _)])⟩
 have b0:(O.length:Int)=n2:=by rw[S,List.length_take];omega
 obtain ⟨aa,ac,b6⟩:=aC ho O;conv=>lhs;rw[a8];cbv;rw[a9];cbv;rw[e];cbv;rw[a1];cbv;(try (rw[e];cbv));rw[ho.isZero];cbv;(try (rw[a1];cbv));rw[ac];cbv;(try (rw[e];cbv))
 rcases av ho aa 0 with ⟨a3,ae⟩|⟨a3,ae⟩<;>(conv=>lhs;rw[a3];cbv)
 ·subst Q;rw[if_neg (by omega),<-S];try rfl
 obtain ⟨l5,l6,a4,ag,am⟩:∃a b,a=st.drop ((st.length:Int)-1).toNat/\b=st.take ((st.length:Int)-1).toNat/\o.call 186 [.ptr (1,0) 0,.d (.int .i64 1)] [some (.box [.arr (1,1) (192,3) none false,.arr (1,2) (31,4) none false]),some (.rows (192,3) O),some (.rows (31,4) st)]=some ⟨.arr (0,0) (31,4) none false,[some (.box [.arr (1,1) (192,3) none false,.arr (0,1) (31,4) none false]),some (.rows (192,3) O),none],[some (.rows (31,4) a),some (.rows (31,4) b)]⟩:=⟨_,_,rfl,rfl,Ee ho O st 1 hst (by omega) (by omega) _ rfl⟩
 have b7:stk o l5:=by rw[a4];exact jh hst
 obtain ⟨b8,b9,s3,l7,⟨an,ao,ap,aw⟩,a5⟩:∃a b c d,(a=j/\b=E/\c=I/\d=J)/\o.cF l5 0=some (.agg [.int .i64 a,.int .i64 b,.str c,.lst d]):=⟨_,_,_,_,⟨rfl,rfl,rfl,rfl⟩,ay ho (Int.le_refl _) (by rw[a4,show (0:Int).toNat=0 from rfl,List.getElem?_drop,Nat.add_zero];exact ht)⟩
 conv=>lhs;rw[am];cbv;(try (rw[e];cbv));rw[a5];cbv;(try (rw[e];cbv));(try (rw[a5];cbv))
 subst Q;rw[if_pos (by omega),<-S,<-ag,<-an,<-ao,<-ap,<-aw];try rfl
end
end
def iU (xs:Lq) (i:Int):Int:=match xs[i.toNat]? with | some (.agg (_:: .int _ a::_))=>a | _=>0
noncomputable def GH (o:aM) (ps:Lq) (i sl:Int):Bool:=match ps[i.toNat]? with | some p=>sq o p sl | none=>false
noncomputable def aV (o:aM) (fns ps:Lq) (sl n lo op N:Int) (s:By) (to:Int):Bool:=
 if op=1 then decide (s=⟨#[]⟩)&&decide (to=0)&&jx N 0 1000000000000
 else if op=2 then ia o s&&decide (N=0)&&decide (to=0)
 else if op=3 then decide (s=⟨#[]⟩)&&decide (to=0)&&jx N 0 (sl-1)
 else if op=4 then decide (s=⟨#[]⟩)&&decide (to=0)&&jx N 0 20
 else if op=5 then decide (s=⟨#[]⟩)&&decide (to=0)&&jx N 0 20
 else if op=6 then decide (s=⟨#[]⟩)&&decide (to=0)&&jx N 2 6
 else if op=7 then kS s&&decide (N=0)&&decide (to=0)
 else if op=8 then decide (0<=iB fns s)&&decide (iU fns (iB fns s)=N)&&decide (to=0)
 else if op=9 then decide (s=⟨#[]⟩)&&jx to lo (n-1)&&jx N 0 (ps.length-1)&&GH o ps N sl
 else if op=10 then decide (s=⟨#[]⟩)&&jx to lo (n-1)&&decide (N=0)
 else if op=11 then decide (s=⟨#[]⟩)&&decide (to=0)&&decide (N=0)
 else if op=12 then decide (s=⟨#[]⟩)&&decide (to=0)&&decide (N=0)
 else false
section
variable {o:aM} (ho:aQ cu bw o)
include ho
section
variable (c_0 c_1:Lq) (f_0:By) (f_1 f_2:Int) (f_3:Lq) (x_0 x_1:Int) (x_2:By) (x_3:Int) (hC:∀x∈c_0,v7 x) (hCb:(c_0.length:Int)<=1048576) {m:Nat} (hP:∀x∈c_1,Tm m x) (hPb:(c_1.length:Int)<=1048576) (hs2:(x_2.size:Int)<=1048576) (hf:0<=f_2/\f_2<=400) (hl3:(f_3.length:Int)<=1048576)
include c_0 c_1 f_0 f_1 f_2 f_3 x_0 x_1 x_2 x_3 hC hCb m hP hPb hs2 hf hl3
theorem KP (S:x_0<1\/12<x_0):o.call 279 [Sc c_0 c_1,.sp [.str f_0,.int .i64 f_1,.int .i64 f_2,.lst f_3] 0,.agg [Ai x_0,Ai x_1,As x_2,Ai x_3]] []=Ar (Ab (aV o c_0 c_1 f_2 f_3.length 0 x_0 x_1 x_2 x_3)):=by
 refine ho.aL λR Q=> ?_
 conv=>lhs;cbv
 rcases aR ho x_2 ⟨#[]⟩with ⟨I,g1⟩|⟨I,g1⟩<;>(conv=>lhs;rw[I];cbv)
 ·obtain ⟨n1,e,g2⟩:=aC ho f_3;obtain ⟨n2,E,g3⟩:=aU ho n1 1;conv=>lhs;rw[e];cbv;rw[E];cbv
  rcases aX x_3 0 n2 with ⟨j,J⟩|⟨j,J⟩
  all_goals
   conv=>lhs;rw[aD ho,j];cbv
   iterate 12 (conv=>lhs;simp (disch:=omega) only [bN ho];cbv)
   subst Q;clear hC hP;have:aV o c_0 c_1 f_2 f_3.length 0 x_0 x_1 x_2 x_3=false:=by unfold aV;rw[if_neg (by omega)];rw[if_neg (by omega)];rw[if_neg (by omega)];rw[if_neg (by omega)];rw[if_neg (by omega)];rw[if_neg (by omega)];rw[if_neg (by omega)];rw[if_neg (by omega)];rw[if_neg (by omega)];rw[if_neg (by omega)];rw[if_neg (by omega)];rw[if_neg (by omega)]
   rw[this];try (first | rfl | (exfalso;omega))
 rcases av ho x_3 0 with ⟨e,g2⟩|⟨e,g2⟩<;>(conv=>lhs;rw[e];cbv)
 all_goals
  obtain ⟨n1,E,g3⟩:=aC ho f_3;obtain ⟨n2,j,J⟩:=aU ho n1 1;conv=>lhs;rw[E];cbv;rw[j];cbv
  rcases aX x_3 0 n2 with ⟨M,O⟩|⟨M,O⟩
  all_goals
   conv=>lhs;rw[aD ho,M];cbv
   iterate 12 (conv=>lhs;simp (disch:=omega) only [bN ho];cbv)
   subst Q;clear hC hP;have:aV o c_0 c_1 f_2 f_3.length 0 x_0 x_1 x_2 x_3=false:=by unfold aV;rw[if_neg (by omega)];rw[if_neg (by omega)];rw[if_neg (by omega)];rw[if_neg (by omega)];rw[if_neg (by omega)];rw[if_neg (by omega)];rw[if_neg (by omega)];rw[if_neg (by omega)];rw[if_neg (by omega)];rw[if_neg (by omega)];rw[if_neg (by omega)];rw[if_neg (by omega)]
   rw[this];try (first | rfl | (exfalso;omega))
theorem KQ (j:x_0=1):o.call 279 [Sc c_0 c_1,.sp [.str f_0,.int .i64 f_1,.int .i64 f_2,.lst f_3] 0,.agg [Ai x_0,Ai x_1,As x_2,Ai x_3]] []=Ar (Ab (aV o c_0 c_1 f_2 f_3.length 0 x_0 x_1 x_2 x_3)):=by
 refine ho.aL λR Q=> ?_
 conv=>lhs;cbv
 rcases aR ho x_2 ⟨#[]⟩with ⟨S,g1⟩|⟨S,g1⟩<;>(conv=>lhs;rw[S];cbv)
 ·obtain ⟨n1,J,g2⟩:=aC ho f_3;obtain ⟨n2,E,g3⟩:=aU ho n1 1;conv=>lhs;rw[J];cbv;rw[E];cbv
  rcases aX x_3 0 n2 with ⟨e,M⟩|⟨e,M⟩
  all_goals
   conv=>lhs;rw[aD ho,e];cbv;simp (disch:=omega) only [cX ho];cbv
   subst Q;clear hC hP;subst j;simp_all [aV]<;>omega
 rcases av ho x_3 0 with ⟨J,g2⟩|⟨J,g2⟩<;>(conv=>lhs;rw[J];cbv)
 ·obtain ⟨n1,E,g3⟩:=aC ho f_3;obtain ⟨n2,e,M⟩:=aU ho n1 1;conv=>lhs;rw[E];cbv;rw[e];cbv
  rcases aX x_3 0 n2 with ⟨I,O⟩|⟨I,O⟩
  all_goals
   conv=>lhs;rw[aD ho,I];cbv;simp (disch:=omega) only [cX ho];cbv
   subst Q;clear hC hP;subst j;simp_all [aV]<;>omega
 obtain ⟨n1,E,g3⟩:=aC ho f_3;obtain ⟨n2,e,M⟩:=aU ho n1 1;conv=>lhs;rw[E];cbv;rw[e];cbv
 rcases aX x_3 0 n2 with ⟨I,O⟩|⟨I,O⟩
 all_goals
  conv=>lhs;rw[aD ho,I];cbv;simp (disch:=omega) only [cX ho];cbv
  rcases aX x_1 0 1000000000000 with ⟨U,V⟩|⟨U,V⟩
  all_goals
   conv=>lhs;rw[aD ho,U];cbv
   subst Q;clear hC hP;subst j;simp_all [aV]<;>omega
theorem KR (e:x_0=2):o.call 279 [Sc c_0 c_1,.sp [.str f_0,.int .i64 f_1,.int .i64 f_2,.lst f_3] 0,.agg [Ai x_0,Ai x_1,As x_2,Ai x_3]] []=Ar (Ab (aV o c_0 c_1 f_2 f_3.length 0 x_0 x_1 x_2 x_3)):=by
 refine ho.aL λR Q=> ?_
 conv=>lhs;cbv
 rcases aR ho x_2 ⟨#[]⟩with ⟨S,g1⟩|⟨S,g1⟩<;>(conv=>lhs;rw[S];cbv)
 ·obtain ⟨n1,E,g2⟩:=aC ho f_3;obtain ⟨n2,O,g3⟩:=aU ho n1 1;conv=>lhs;rw[E];cbv;rw[O];cbv
  rcases aX x_3 0 n2 with ⟨J,U⟩|⟨J,U⟩
  all_goals
   conv=>lhs;rw[aD ho,J];cbv
   iterate 2 (conv=>lhs;simp (disch:=omega) only [bN ho,cX ho];cbv)
   rcases av ho x_1 0 with ⟨V,g8⟩|⟨V,g8⟩<;>(conv=>lhs;rw[V];cbv)
   ·subst Q;clear hC hP;subst e;simp_all [aV]<;>omega
   cases I:ia o x_2<;>(conv=>lhs;rw[wh ho x_2 (by omega),I];cbv)
   ·subst Q;try rw[I]
    clear hC hP;subst e;simp_all [aV]<;>omega
   rcases av ho x_3 0 with ⟨M,a0⟩|⟨M,a0⟩<;>(conv=>lhs;rw[M];cbv)
   all_goals
    subst Q;try rw[I]
    clear hC hP;subst e;simp_all [aV]<;>omega
 rcases av ho x_3 0 with ⟨E,g2⟩|⟨E,g2⟩<;>(conv=>lhs;rw[E];cbv)
 all_goals
  obtain ⟨n1,O,g3⟩:=aC ho f_3;obtain ⟨n2,J,U⟩:=aU ho n1 1;conv=>lhs;rw[O];cbv;rw[J];cbv
  rcases aX x_3 0 n2 with ⟨e5,g5⟩|⟨e5,g5⟩
  all_goals
   conv=>lhs;rw[aD ho,e5];cbv
   iterate 2 (conv=>lhs;simp (disch:=omega) only [bN ho,cX ho];cbv)
   rcases av ho x_1 0 with ⟨e9,g9⟩|⟨e9,g9⟩<;>(conv=>lhs;rw[e9];cbv)
   ·subst Q;clear hC hP;subst e;simp_all [aV]<;>omega
   cases j:ia o x_2<;>(conv=>lhs;rw[wh ho x_2 (by omega),j];cbv)
   ·subst Q;try rw[j]
    clear hC hP;subst e;simp_all [aV]<;>omega
   conv=>lhs;(try (rw[E];cbv))
   subst Q;try rw[j]
   clear hC hP;subst e;simp_all [aV]<;>omega
end
end
section
variable {o:aM} (ho:aQ cu bw o)
include ho
section
variable (c_0 c_1:Lq) (f_0:By) (f_1 f_2:Int) (f_3:Lq) (x_0 x_1:Int) (x_2:By) (x_3:Int) (hC:∀x∈c_0,v7 x) (hCb:(c_0.length:Int)<=1048576) {m:Nat} (hP:∀x∈c_1,Tm m x) (hPb:(c_1.length:Int)<=1048576) (hs2:(x_2.size:Int)<=1048576) (hf:0<=f_2/\f_2<=400) (hl3:(f_3.length:Int)<=1048576)
include c_0 c_1 f_0 f_1 f_2 f_3 x_0 x_1 x_2 x_3 hC hCb m hP hPb hs2 hf hl3
theorem KS (j:x_0=3):o.call 279 [Sc c_0 c_1,.sp [.str f_0,.int .i64 f_1,.int .i64 f_2,.lst f_3] 0,.agg [Ai x_0,Ai x_1,As x_2,Ai x_3]] []=Ar (Ab (aV o c_0 c_1 f_2 f_3.length 0 x_0 x_1 x_2 x_3)):=by
 refine ho.aL λR Q=> ?_
 conv=>lhs;cbv
 rcases aR ho x_2 ⟨#[]⟩with ⟨U,g1⟩|⟨U,g1⟩<;>(conv=>lhs;rw[U];cbv)
 ·obtain ⟨n1,J,g2⟩:=aC ho f_3;obtain ⟨n2,E,g3⟩:=aU ho n1 1;conv=>lhs;rw[J];cbv;rw[E];cbv
  rcases aX x_3 0 n2 with ⟨e,O⟩|⟨e,O⟩
  all_goals
   conv=>lhs;rw[aD ho,e];cbv
   iterate 3 (conv=>lhs;simp (disch:=omega) only [bN ho,cX ho];cbv)
   subst Q;clear hC hP;subst j;simp_all [aV]<;>omega
 rcases av ho x_3 0 with ⟨J,g2⟩|⟨J,g2⟩<;>(conv=>lhs;rw[J];cbv)
 ·obtain ⟨n1,E,g3⟩:=aC ho f_3;obtain ⟨n2,e,O⟩:=aU ho n1 1;conv=>lhs;rw[E];cbv;rw[e];cbv
  rcases aX x_3 0 n2 with ⟨I,S⟩|⟨I,S⟩
  all_goals
   conv=>lhs;rw[aD ho,I];cbv
   iterate 3 (conv=>lhs;simp (disch:=omega) only [bN ho,cX ho];cbv)
   subst Q;clear hC hP;subst j;simp_all [aV]<;>omega
 obtain ⟨n1,E,g3⟩:=aC ho f_3;obtain ⟨n2,e,O⟩:=aU ho n1 1;conv=>lhs;rw[E];cbv;rw[e];cbv
 rcases aX x_3 0 n2 with ⟨I,S⟩|⟨I,S⟩
 all_goals
  conv=>lhs;rw[aD ho,I];cbv
  iterate 3 (conv=>lhs;simp (disch:=omega) only [bN ho,cX ho];cbv)
  obtain ⟨n3,V,a1⟩:=aU ho f_2 1;conv=>lhs;rw[V];cbv
  rcases aX x_1 0 n3 with ⟨M,a0⟩|⟨M,a0⟩
  all_goals
   conv=>lhs;rw[aD ho,M];cbv
   subst Q;clear hC hP;subst j;simp_all [aV]<;>omega
theorem KT (j:x_0=4):o.call 279 [Sc c_0 c_1,.sp [.str f_0,.int .i64 f_1,.int .i64 f_2,.lst f_3] 0,.agg [Ai x_0,Ai x_1,As x_2,Ai x_3]] []=Ar (Ab (aV o c_0 c_1 f_2 f_3.length 0 x_0 x_1 x_2 x_3)):=by
 refine ho.aL λR Q=> ?_
 conv=>lhs;cbv
 rcases aR ho x_2 ⟨#[]⟩with ⟨U,g1⟩|⟨U,g1⟩<;>(conv=>lhs;rw[U];cbv)
 ·obtain ⟨n1,J,g2⟩:=aC ho f_3;obtain ⟨n2,E,g3⟩:=aU ho n1 1;conv=>lhs;rw[J];cbv;rw[E];cbv
  rcases aX x_3 0 n2 with ⟨e,O⟩|⟨e,O⟩
  all_goals
   conv=>lhs;rw[aD ho,e];cbv
   iterate 4 (conv=>lhs;simp (disch:=omega) only [bN ho,cX ho];cbv)
   subst Q;clear hC hP;subst j;simp_all [aV]<;>omega
 rcases av ho x_3 0 with ⟨J,g2⟩|⟨J,g2⟩<;>(conv=>lhs;rw[J];cbv)
 ·obtain ⟨n1,E,g3⟩:=aC ho f_3;obtain ⟨n2,e,O⟩:=aU ho n1 1;conv=>lhs;rw[E];cbv;rw[e];cbv
  rcases aX x_3 0 n2 with ⟨I,S⟩|⟨I,S⟩
  all_goals
   conv=>lhs;rw[aD ho,I];cbv
   iterate 4 (conv=>lhs;simp (disch:=omega) only [bN ho,cX ho];cbv)
   subst Q;clear hC hP;subst j;simp_all [aV]<;>omega
 obtain ⟨n1,E,g3⟩:=aC ho f_3;obtain ⟨n2,e,O⟩:=aU ho n1 1;conv=>lhs;rw[E];cbv;rw[e];cbv
 rcases aX x_3 0 n2 with ⟨I,S⟩|⟨I,S⟩
 all_goals
  conv=>lhs;rw[aD ho,I];cbv
  iterate 4 (conv=>lhs;simp (disch:=omega) only [bN ho,cX ho];cbv)
  rcases aX x_1 0 20 with ⟨M,V⟩|⟨M,V⟩
  all_goals
   conv=>lhs;rw[aD ho,M];cbv
   subst Q;clear hC hP;subst j;simp_all [aV]<;>omega
theorem KU (j:x_0=5):o.call 279 [Sc c_0 c_1,.sp [.str f_0,.int .i64 f_1,.int .i64 f_2,.lst f_3] 0,.agg [Ai x_0,Ai x_1,As x_2,Ai x_3]] []=Ar (Ab (aV o c_0 c_1 f_2 f_3.length 0 x_0 x_1 x_2 x_3)):=by
 refine ho.aL λR Q=> ?_
 conv=>lhs;cbv
 rcases aR ho x_2 ⟨#[]⟩with ⟨U,g1⟩|⟨U,g1⟩<;>(conv=>lhs;rw[U];cbv)
 ·obtain ⟨n1,J,g2⟩:=aC ho f_3;obtain ⟨n2,E,g3⟩:=aU ho n1 1;conv=>lhs;rw[J];cbv;rw[E];cbv
  rcases aX x_3 0 n2 with ⟨e,O⟩|⟨e,O⟩
  all_goals
   conv=>lhs;rw[aD ho,e];cbv
   iterate 5 (conv=>lhs;simp (disch:=omega) only [bN ho,cX ho];cbv)
   subst Q;clear hC hP;subst j;simp_all [aV]<;>omega
 rcases av ho x_3 0 with ⟨J,g2⟩|⟨J,g2⟩<;>(conv=>lhs;rw[J];cbv)
 ·obtain ⟨n1,E,g3⟩:=aC ho f_3;obtain ⟨n2,e,O⟩:=aU ho n1 1;conv=>lhs;rw[E];cbv;rw[e];cbv
  rcases aX x_3 0 n2 with ⟨I,S⟩|⟨I,S⟩
  all_goals
   conv=>lhs;rw[aD ho,I];cbv
   iterate 5 (conv=>lhs;simp (disch:=omega) only [bN ho,cX ho];cbv)
   subst Q;clear hC hP;subst j;simp_all [aV]<;>omega
 obtain ⟨n1,E,g3⟩:=aC ho f_3;obtain ⟨n2,e,O⟩:=aU ho n1 1;conv=>lhs;rw[E];cbv;rw[e];cbv
 rcases aX x_3 0 n2 with ⟨I,S⟩|⟨I,S⟩
 all_goals
  conv=>lhs;rw[aD ho,I];cbv
  iterate 5 (conv=>lhs;simp (disch:=omega) only [bN ho,cX ho];cbv)
  rcases aX x_1 0 20 with ⟨M,V⟩|⟨M,V⟩
  all_goals
   conv=>lhs;rw[aD ho,M];cbv
   subst Q;clear hC hP;subst j;simp_all [aV]<;>omega
theorem KV (j:x_0=6):o.call 279 [Sc c_0 c_1,.sp [.str f_0,.int .i64 f_1,.int .i64 f_2,.lst f_3] 0,.agg [Ai x_0,Ai x_1,As x_2,Ai x_3]] []=Ar (Ab (aV o c_0 c_1 f_2 f_3.length 0 x_0 x_1 x_2 x_3)):=by
 refine ho.aL λR Q=> ?_
 conv=>lhs;cbv
 rcases aR ho x_2 ⟨#[]⟩with ⟨U,g1⟩|⟨U,g1⟩<;>(conv=>lhs;rw[U];cbv)
 ·obtain ⟨n1,J,g2⟩:=aC ho f_3;obtain ⟨n2,E,g3⟩:=aU ho n1 1;conv=>lhs;rw[J];cbv;rw[E];cbv
  rcases aX x_3 0 n2 with ⟨e,O⟩|⟨e,O⟩
  all_goals
   conv=>lhs;rw[aD ho,e];cbv
   iterate 6 (conv=>lhs;simp (disch:=omega) only [bN ho,cX ho];cbv)
   subst Q;clear hC hP;subst j;simp_all [aV]<;>omega
 rcases av ho x_3 0 with ⟨J,g2⟩|⟨J,g2⟩<;>(conv=>lhs;rw[J];cbv)
 ·obtain ⟨n1,E,g3⟩:=aC ho f_3;obtain ⟨n2,e,O⟩:=aU ho n1 1;conv=>lhs;rw[E];cbv;rw[e];cbv
  rcases aX x_3 0 n2 with ⟨I,S⟩|⟨I,S⟩
  all_goals
   conv=>lhs;rw[aD ho,I];cbv
   iterate 6 (conv=>lhs;simp (disch:=omega) only [bN ho,cX ho];cbv)
   subst Q;clear hC hP;subst j;simp_all [aV]<;>omega
 obtain ⟨n1,E,g3⟩:=aC ho f_3;obtain ⟨n2,e,O⟩:=aU ho n1 1;conv=>lhs;rw[E];cbv;rw[e];cbv
 rcases aX x_3 0 n2 with ⟨I,S⟩|⟨I,S⟩
 all_goals
  conv=>lhs;rw[aD ho,I];cbv
  iterate 6 (conv=>lhs;simp (disch:=omega) only [bN ho,cX ho];cbv)
  rcases aX x_1 2 6 with ⟨M,V⟩|⟨M,V⟩
  all_goals
   conv=>lhs;rw[aD ho,M];cbv
   subst Q;clear hC hP;subst j;simp_all [aV]<;>omega
end
end
section
variable {o:aM} (ho:aQ cu bw o)
include ho
section
variable (c_0 c_1:Lq) (f_0:By) (f_1 f_2:Int) (f_3:Lq) (x_0 x_1:Int) (x_2:By) (x_3:Int) (hC:∀x∈c_0,v7 x) (hCb:(c_0.length:Int)<=1048576) {m:Nat} (hP:∀x∈c_1,Tm m x) (hPb:(c_1.length:Int)<=1048576) (hs2:(x_2.size:Int)<=1048576) (hf:0<=f_2/\f_2<=400) (hl3:(f_3.length:Int)<=1048576)
include c_0 c_1 f_0 f_1 f_2 f_3 x_0 x_1 x_2 x_3 hC hCb m hP hPb hs2 hf hl3
theorem KW (e:x_0=7):o.call 279 [Sc c_0 c_1,.sp [.str f_0,.int .i64 f_1,.int .i64 f_2,.lst f_3] 0,.agg [Ai x_0,Ai x_1,As x_2,Ai x_3]] []=Ar (Ab (aV o c_0 c_1 f_2 f_3.length 0 x_0 x_1 x_2 x_3)):=by
 refine ho.aL λR Q=> ?_
 conv=>lhs;cbv
 rcases aR ho x_2 ⟨#[]⟩with ⟨V,g1⟩|⟨V,g1⟩<;>(conv=>lhs;rw[V];cbv)
 ·obtain ⟨n1,I,g2⟩:=aC ho f_3;obtain ⟨n2,U,g3⟩:=aU ho n1 1;conv=>lhs;rw[I];cbv;rw[U];cbv
  rcases aX x_3 0 n2 with ⟨J,g4⟩|⟨J,g4⟩
  all_goals
   conv=>lhs;rw[aD ho,J];cbv
   iterate 7 (conv=>lhs;simp (disch:=omega) only [bN ho,cX ho];cbv)
   rcases av ho x_1 0 with ⟨M,a0⟩|⟨M,a0⟩<;>(conv=>lhs;rw[M];cbv)
   ·subst Q;clear hC hP;subst e;simp_all [aV]<;>omega
   cases j:kS x_2<;>(conv=>lhs;rw[I8 ho,j];cbv)
   ·subst Q;try rw[j]
    clear hC hP;subst e;simp_all [aV]<;>omega
   rcases av ho x_3 0 with ⟨O,a1⟩|⟨O,a1⟩<;>(conv=>lhs;rw[O];cbv)
   all_goals
    subst Q;try rw[j]
    clear hC hP;subst e;simp_all [aV]<;>omega
 rcases av ho x_3 0 with ⟨I,g2⟩|⟨I,g2⟩<;>(conv=>lhs;rw[I];cbv)
 all_goals
  obtain ⟨n1,U,g3⟩:=aC ho f_3;obtain ⟨n2,J,g4⟩:=aU ho n1 1;conv=>lhs;rw[U];cbv;rw[J];cbv
  rcases aX x_3 0 n2 with ⟨e5,g5⟩|⟨e5,g5⟩
  all_goals
   conv=>lhs;rw[aD ho,e5];cbv
   iterate 7 (conv=>lhs;simp (disch:=omega) only [bN ho,cX ho];cbv)
   rcases av ho x_1 0 with ⟨S,a3⟩|⟨S,a3⟩<;>(conv=>lhs;rw[S];cbv)
   ·subst Q;clear hC hP;subst e;simp_all [aV]<;>omega
   cases E:kS x_2<;>(conv=>lhs;rw[I8 ho,E];cbv)
   ·subst Q;try rw[E]
    clear hC hP;subst e;simp_all [aV]<;>omega
   conv=>lhs;(try (rw[I];cbv))
   subst Q;try rw[E]
   clear hC hP;subst e;simp_all [aV]<;>omega
theorem KX (e:x_0=8):o.call 279 [Sc c_0 c_1,.sp [.str f_0,.int .i64 f_1,.int .i64 f_2,.lst f_3] 0,.agg [Ai x_0,Ai x_1,As x_2,Ai x_3]] []=Ar (Ab (aV o c_0 c_1 f_2 f_3.length 0 x_0 x_1 x_2 x_3)):=by
 refine ho.aL λR Q=> ?_
 conv=>lhs;cbv
 rcases aR ho x_2 ⟨#[]⟩with ⟨e1,g1⟩|⟨e1,g1⟩<;>(conv=>lhs;rw[e1];cbv)
 ·obtain ⟨n1,O,g2⟩:=aC ho f_3;obtain ⟨n2,e3,g3⟩:=aU ho n1 1;conv=>lhs;rw[O];cbv;rw[e3];cbv
  rcases aX x_3 0 n2 with ⟨V,g4⟩|⟨V,g4⟩
  all_goals
   conv=>lhs;rw[aD ho,V];cbv
   iterate 8 (conv=>lhs;simp (disch:=omega) only [bN ho,cX ho];cbv)
   obtain ⟨n3,hA,a0⟩:∃n3,iB c_0 x_2=n3/\o.call 180 [Sc c_0 c_1,As x_2] []=Ar (Ai n3):=⟨_,rfl,wN ho c_0 c_1 x_2 hC hCb⟩
   have a1:=pD c_0 x_2;conv=>lhs;rw[a0];cbv
   rcases jc ho n3 0 with ⟨I,a3⟩|⟨I,a3⟩<;>(conv=>lhs;rw[I];cbv)
   ·subst Q;clear hC hP;subst e;simp_all [aV]<;>omega
   obtain ⟨x,j,a4,S⟩:=aF (xs:=c_0) rfl (show 0<=n3 by omega) (by omega);obtain ⟨s1,n4,n5,l1,rfl,hz⟩:=hC _ S;have hv:iU c_0 n3=n4:=by unfold iU;rw[j]
   have J:o.cF c_0 n3=some (.agg [.str s1,.int .i64 n4,.int .i64 n5,.lst l1]):=ay ho (by omega) j;conv=>lhs;rw[J];cbv
   rcases av ho n4 x_1 with ⟨M,a5⟩|⟨M,a5⟩<;>(conv=>lhs;rw[M];cbv)
   ·subst Q;clear hC hP;subst e;simp_all [aV]<;>omega
   rcases av ho x_3 0 with ⟨E,U⟩|⟨E,U⟩<;>(conv=>lhs;rw[E];cbv)
   all_goals
    subst Q;clear hC hP;subst e;simp_all [aV]<;>omega
 rcases av ho x_3 0 with ⟨O,g2⟩|⟨O,g2⟩<;>(conv=>lhs;rw[O];cbv)
 all_goals
  obtain ⟨n1,e3,g3⟩:=aC ho f_3;obtain ⟨n2,V,g4⟩:=aU ho n1 1;conv=>lhs;rw[e3];cbv;rw[V];cbv
  rcases aX x_3 0 n2 with ⟨e5,g5⟩|⟨e5,g5⟩
  all_goals
   conv=>lhs;rw[aD ho,e5];cbv
   iterate 8 (conv=>lhs;simp (disch:=omega) only [bN ho,cX ho];cbv)
   obtain ⟨n3,hA,I⟩:∃n3,iB c_0 x_2=n3/\o.call 180 [Sc c_0 c_1,As x_2] []=Ar (Ai n3):=⟨_,rfl,wN ho c_0 c_1 x_2 hC hCb⟩
   have a1:=pD c_0 x_2;conv=>lhs;rw[I];cbv
   rcases jc ho n3 0 with ⟨J,a6⟩|⟨J,a6⟩<;>(conv=>lhs;rw[J];cbv)
   ·subst Q;clear hC hP;subst e;simp_all [aV]<;>omega
   obtain ⟨x,j,a4,S⟩:=aF (xs:=c_0) rfl (show 0<=n3 by omega) (by omega);obtain ⟨s1,n4,n5,l1,rfl,hz⟩:=hC _ S;have hv:iU c_0 n3=n4:=by unfold iU;rw[j]
   have M:o.cF c_0 n3=some (.agg [.str s1,.int .i64 n4,.int .i64 n5,.lst l1]):=ay ho (by omega) j;conv=>lhs;rw[M];cbv
   rcases av ho n4 x_1 with ⟨E,U⟩|⟨E,U⟩<;>(conv=>lhs;rw[E];cbv)
   ·subst Q;clear hC hP;subst e;simp_all [aV]<;>omega
   conv=>lhs;(try (rw[O];cbv))
   subst Q;clear hC hP;subst e;simp_all [aV]<;>omega
end
end
section
variable {o:aM} (ho:aQ cu bw o)
include ho
section
variable (c_0 c_1:Lq) (f_0:By) (f_1 f_2:Int) (f_3:Lq) (x_0 x_1:Int) (x_2:By) (x_3:Int) (hC:∀x∈c_0,v7 x) (hCb:(c_0.length:Int)<=1048576) {m:Nat} (hP:∀x∈c_1,Tm m x) (hPb:(c_1.length:Int)<=1048576) (hs2:(x_2.size:Int)<=1048576) (hf:0<=f_2/\f_2<=400) (hl3:(f_3.length:Int)<=1048576)
include c_0 c_1 f_0 f_1 f_2 f_3 x_0 x_1 x_2 x_3 hC hCb m hP hPb hs2 hf hl3
theorem KY (e:x_0=9):o.call 279 [Sc c_0 c_1,.sp [.str f_0,.int .i64 f_1,.int .i64 f_2,.lst f_3] 0,.agg [Ai x_0,Ai x_1,As x_2,Ai x_3]] []=Ar (Ab (aV o c_0 c_1 f_2 f_3.length 0 x_0 x_1 x_2 x_3)):=by
 refine ho.aL λR Q=> ?_
 conv=>lhs;cbv
 rcases aR ho x_2 ⟨#[]⟩with ⟨j,g1⟩|⟨j,g1⟩<;>(conv=>lhs;rw[j];cbv)
 ·obtain ⟨n1,I,g2⟩:=aC ho f_3;obtain ⟨n2,S,g3⟩:=aU ho n1 1;conv=>lhs;rw[I];cbv;rw[S];cbv
  rcases aX x_3 0 n2 with ⟨J,g4⟩|⟨J,g4⟩
  all_goals
   conv=>lhs;rw[aD ho,J];cbv
   iterate 9 (conv=>lhs;simp (disch:=omega) only [bN ho,cX ho];cbv)
   conv=>lhs;(try (rw[j];cbv))
   subst Q;clear hC hP;subst e;simp_all [aV]<;>omega
 rcases av ho x_3 0 with ⟨I,g2⟩|⟨I,g2⟩<;>(conv=>lhs;rw[I];cbv)
 all_goals
  obtain ⟨n1,S,g3⟩:=aC ho f_3;obtain ⟨n2,J,g4⟩:=aU ho n1 1;conv=>lhs;rw[S];cbv;rw[J];cbv
  rcases aX x_3 0 n2 with ⟨U,g5⟩|⟨U,g5⟩
  ·conv=>lhs;rw[aD ho,U];cbv
   iterate 9 (conv=>lhs;simp (disch:=omega) only [bN ho,cX ho];cbv)
   conv=>lhs;(try (rw[j];cbv))
   subst Q;clear hC hP;subst e;simp_all [aV]<;>omega
  conv=>lhs;rw[aD ho,U];cbv
  iterate 9 (conv=>lhs;simp (disch:=omega) only [bN ho,cX ho];cbv)
  obtain ⟨n3,a0,a8⟩:=aC ho c_1;obtain ⟨n4,a1,a9⟩:=aU ho n3 1;conv=>lhs;(try (rw[j];cbv));rw[a0];cbv;rw[a1];cbv
  rcases aX x_1 0 n4 with ⟨E,a3⟩|⟨E,a3⟩
  ·conv=>lhs;rw[aD ho,E];cbv
   subst Q;clear hC hP;subst e;simp_all [aV]<;>omega
  obtain ⟨x,M,aa,O⟩:=aF (xs:=c_1) rfl (show 0<=x_1 by omega) (by omega);obtain ⟨m',n5,n6,s1,l1,ac,rfl,hs,hl,ht⟩:=bH (hP _ O);have a4:=hP _ O;have hv:GH o c_1 x_1 f_2=sq o (.agg [.int .i64 n5,.int .i64 n6,.str s1,.lst l1]) f_2:=by unfold GH;rw[M]
  have a5:o.cF c_1 x_1=some (.agg [.int .i64 n5,.int .i64 n6,.str s1,.lst l1]):=ay ho (by omega) M;obtain ⟨a6,V⟩:∃b:Bool,sq o (.agg [.int .i64 n5,.int .i64 n6,.str s1,.lst l1]) f_2=b:=⟨_,rfl⟩
  have a7:o.call 344 [At n5 n6 s1 l1,Ai f_2] []=Ar (Ab a6):=(Gx ho _ _ _ _ a4 f_2).trans (by rw[V]);conv=>lhs;rw[aD ho,E];cbv;rw[a5];cbv;rw[a7];cbv
  subst Q;clear hC hP;subst e;simp_all [aV]<;>omega
theorem H9 (I:x_0=10):o.call 279 [Sc c_0 c_1,.sp [.str f_0,.int .i64 f_1,.int .i64 f_2,.lst f_3] 0,.agg [Ai x_0,Ai x_1,As x_2,Ai x_3]] []=Ar (Ab (aV o c_0 c_1 f_2 f_3.length 0 x_0 x_1 x_2 x_3)):=by
 refine ho.aL λR Q=> ?_
 conv=>lhs;cbv
 rcases aR ho x_2 ⟨#[]⟩with ⟨e,g1⟩|⟨e,g1⟩<;>(conv=>lhs;rw[e];cbv)
 ·obtain ⟨n1,j,g2⟩:=aC ho f_3;obtain ⟨n2,M,g3⟩:=aU ho n1 1;conv=>lhs;rw[j];cbv;rw[M];cbv
  rcases aX x_3 0 n2 with ⟨E,O⟩|⟨E,O⟩
  all_goals
   conv=>lhs;rw[aD ho,E];cbv
   iterate 10 (conv=>lhs;simp (disch:=omega) only [bN ho,cX ho];cbv)
   conv=>lhs;(try (rw[e];cbv))
   subst Q;clear hC hP;subst I;simp_all [aV]<;>omega
 rcases av ho x_3 0 with ⟨j,g2⟩|⟨j,g2⟩<;>(conv=>lhs;rw[j];cbv)
 all_goals
  obtain ⟨n1,M,g3⟩:=aC ho f_3;obtain ⟨n2,E,O⟩:=aU ho n1 1;conv=>lhs;rw[M];cbv;rw[E];cbv
  rcases aX x_3 0 n2 with ⟨S,V⟩|⟨S,V⟩
  all_goals
   conv=>lhs;rw[aD ho,S];cbv
   iterate 10 (conv=>lhs;simp (disch:=omega) only [bN ho,cX ho];cbv)
   conv=>lhs;(try (rw[e];cbv))
   rcases av ho x_1 0 with ⟨J,U⟩|⟨J,U⟩<;>(conv=>lhs;rw[J];cbv)
   all_goals
    subst Q;clear hC hP;subst I;simp_all [aV]<;>omega
theorem H_ (j:x_0=11):o.call 279 [Sc c_0 c_1,.sp [.str f_0,.int .i64 f_1,.int .i64 f_2,.lst f_3] 0,.agg [Ai x_0,Ai x_1,As x_2,Ai x_3]] []=Ar (Ab (aV o c_0 c_1 f_2 f_3.length 0 x_0 x_1 x_2 x_3)):=by
 refine ho.aL λR Q=> ?_
 conv=>lhs;cbv
 rcases aR ho x_2 ⟨#[]⟩with ⟨U,g1⟩|⟨U,g1⟩<;>(conv=>lhs;rw[U];cbv)
 ·obtain ⟨n1,J,g2⟩:=aC ho f_3;obtain ⟨n2,E,g3⟩:=aU ho n1 1;conv=>lhs;rw[J];cbv;rw[E];cbv
  rcases aX x_3 0 n2 with ⟨e,O⟩|⟨e,O⟩
  all_goals
   conv=>lhs;rw[aD ho,e];cbv
   iterate 11 (conv=>lhs;simp (disch:=omega) only [bN ho,cX ho];cbv)
   subst Q;clear hC hP;subst j;simp_all [aV]<;>omega
 rcases av ho x_3 0 with ⟨J,g2⟩|⟨J,g2⟩<;>(conv=>lhs;rw[J];cbv)
 ·obtain ⟨n1,E,g3⟩:=aC ho f_3;obtain ⟨n2,e,O⟩:=aU ho n1 1;conv=>lhs;rw[E];cbv;rw[e];cbv
  rcases aX x_3 0 n2 with ⟨I,S⟩|⟨I,S⟩
  all_goals
   conv=>lhs;rw[aD ho,I];cbv
   iterate 11 (conv=>lhs;simp (disch:=omega) only [bN ho,cX ho];cbv)
   subst Q;clear hC hP;subst j;simp_all [aV]<;>omega
 obtain ⟨n1,E,g3⟩:=aC ho f_3;obtain ⟨n2,e,O⟩:=aU ho n1 1;conv=>lhs;rw[E];cbv;rw[e];cbv
 rcases aX x_3 0 n2 with ⟨I,S⟩|⟨I,S⟩
 all_goals
  conv=>lhs;rw[aD ho,I];cbv
  iterate 11 (conv=>lhs;simp (disch:=omega) only [bN ho,cX ho];cbv)
  rcases av ho x_1 0 with ⟨M,V⟩|⟨M,V⟩<;>(conv=>lhs;rw[M];cbv)
  all_goals
   subst Q;clear hC hP;subst j;simp_all [aV]<;>omega
theorem Ia (j:x_0=12):o.call 279 [Sc c_0 c_1,.sp [.str f_0,.int .i64 f_1,.int .i64 f_2,.lst f_3] 0,.agg [Ai x_0,Ai x_1,As x_2,Ai x_3]] []=Ar (Ab (aV o c_0 c_1 f_2 f_3.length 0 x_0 x_1 x_2 x_3)):=by
 refine ho.aL λR Q=> ?_
 conv=>lhs;cbv
 rcases aR ho x_2 ⟨#[]⟩with ⟨U,g1⟩|⟨U,g1⟩<;>(conv=>lhs;rw[U];cbv)
 ·obtain ⟨n1,J,g2⟩:=aC ho f_3;obtain ⟨n2,E,g3⟩:=aU ho n1 1;conv=>lhs;rw[J];cbv;rw[E];cbv
  rcases aX x_3 0 n2 with ⟨e,O⟩|⟨e,O⟩
  all_goals
   conv=>lhs;rw[aD ho,e];cbv
   iterate 12 (conv=>lhs;simp (disch:=omega) only [bN ho,cX ho];cbv)
   subst Q;clear hC hP;subst j;simp_all [aV]<;>omega
 rcases av ho x_3 0 with ⟨J,g2⟩|⟨J,g2⟩<;>(conv=>lhs;rw[J];cbv)
 ·obtain ⟨n1,E,g3⟩:=aC ho f_3;obtain ⟨n2,e,O⟩:=aU ho n1 1;conv=>lhs;rw[E];cbv;rw[e];cbv
  rcases aX x_3 0 n2 with ⟨I,S⟩|⟨I,S⟩
  all_goals
   conv=>lhs;rw[aD ho,I];cbv
   iterate 12 (conv=>lhs;simp (disch:=omega) only [bN ho,cX ho];cbv)
   subst Q;clear hC hP;subst j;simp_all [aV]<;>omega
 obtain ⟨n1,E,g3⟩:=aC ho f_3;obtain ⟨n2,e,O⟩:=aU ho n1 1;conv=>lhs;rw[E];cbv;rw[e];cbv
 rcases aX x_3 0 n2 with ⟨I,S⟩|⟨I,S⟩
 all_goals
  conv=>lhs;rw[aD ho,I];cbv
  iterate 12 (conv=>lhs;simp (disch:=omega) only [bN ho,cX ho];cbv)
  rcases av ho x_1 0 with ⟨M,V⟩|⟨M,V⟩<;>(conv=>lhs;rw[M];cbv)
  all_goals
   subst Q;clear hC hP;subst j;simp_all [aV]<;>omega
end
end
section
variable {o:aM} (ho:aQ cu bw o)
include ho
theorem KO (c_0 c_1:Lq) (f_0:By) (f_1 f_2:Int) (f_3:Lq) (x_0 x_1:Int) (x_2:By) (x_3:Int) (hC:∀x∈c_0,v7 x) (hCb:(c_0.length:Int)<=1048576) {m:Nat} (hP:∀x∈c_1,Tm m x) (hPb:(c_1.length:Int)<=1048576) (hs2:(x_2.size:Int)<=1048576) (hf:0<=f_2/\f_2<=400) (hl3:(f_3.length:Int)<=1048576):o.call 279 [Sc c_0 c_1,.sp [.str f_0,.int .i64 f_1,.int .i64 f_2,.lst f_3] 0,.agg [Ai x_0,Ai x_1,As x_2,Ai x_3]] []=Ar (Ab (aV o c_0 c_1 f_2 f_3.length 0 x_0 x_1 x_2 x_3)):=by
 by_cases I:x_0=1
 ·exact KQ ho c_0 c_1 f_0 f_1 f_2 f_3 x_0 x_1 x_2 x_3 hC hCb hP hPb hs2 hf hl3 I
 by_cases J:x_0=2
 ·exact KR ho c_0 c_1 f_0 f_1 f_2 f_3 x_0 x_1 x_2 x_3 hC hCb hP hPb hs2 hf hl3 J
 by_cases h3:x_0=3
 ·exact KS ho c_0 c_1 f_0 f_1 f_2 f_3 x_0 x_1 x_2 x_3 hC hCb hP hPb hs2 hf hl3 h3
 by_cases h4:x_0=4
 ·exact KT ho c_0 c_1 f_0 f_1 f_2 f_3 x_0 x_1 x_2 x_3 hC hCb hP hPb hs2 hf hl3 h4
 by_cases M:x_0=5
 ·exact KU ho c_0 c_1 f_0 f_1 f_2 f_3 x_0 x_1 x_2 x_3 hC hCb hP hPb hs2 hf hl3 M
 by_cases O:x_0=6
 ·exact KV ho c_0 c_1 f_0 f_1 f_2 f_3 x_0 x_1 x_2 x_3 hC hCb hP hPb hs2 hf hl3 O
 by_cases S:x_0=7
 ·exact KW ho c_0 c_1 f_0 f_1 f_2 f_3 x_0 x_1 x_2 x_3 hC hCb hP hPb hs2 hf hl3 S
 by_cases U:x_0=8
 ·exact KX ho c_0 c_1 f_0 f_1 f_2 f_3 x_0 x_1 x_2 x_3 hC hCb hP hPb hs2 hf hl3 U
 by_cases V:x_0=9
 ·exact KY ho c_0 c_1 f_0 f_1 f_2 f_3 x_0 x_1 x_2 x_3 hC hCb hP hPb hs2 hf hl3 V
 by_cases e:x_0=10
 ·exact H9 ho c_0 c_1 f_0 f_1 f_2 f_3 x_0 x_1 x_2 x_3 hC hCb hP hPb hs2 hf hl3 e
 by_cases j:x_0=11
 ·exact H_ ho c_0 c_1 f_0 f_1 f_2 f_3 x_0 x_1 x_2 x_3 hC hCb hP hPb hs2 hf hl3 j
 by_cases E:x_0=12
 ·exact Ia ho c_0 c_1 f_0 f_1 f_2 f_3 x_0 x_1 x_2 x_3 hC hCb hP hPb hs2 hf hl3 E
 exact KP ho c_0 c_1 f_0 f_1 f_2 f_3 x_0 x_1 x_2 x_3 hC hCb hP hPb hs2 hf hl3 (by omega)
end
end T2
