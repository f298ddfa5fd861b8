import Derived.Test.YtfnagkpidcdocaaGreatM23
import Derived.Test.YtfnagkpidcdocaaGreatM21
import Derived.Test.YtfnagkpidcdocaaGreatM22
set_option linter.all false
namespace T2
open Go Go.Vi
set_option maxRecDepth 100000
set_option maxHeartbeats 4000000
section
variable {o:aK} (ho:aU cF bE o)
include ho
section
variable (fs st c_0 c_1:List D) (hst:stk o st) (k:Int) (hk:k=(fs.length:Int)-1) (hk0:0<=k) (hkb:k<=100) (n3 n4:Int) (l1:List D) (hf:fs[k.toNat]? =some (.agg [.int .i64 n3,.int .i64 n4,.lst l1])) (hSl:∀x∈l1,Sl o x) (h3:0<=n3) (s1:ByteArray) (n5 n6:Int) (l2:List D) (hc:c_0[n3.toNat]? =some (.agg [.str s1,.int .i64 n5,.int .i64 n6,.lst l2])) (h4:0<=n4) (h4b:n4<=5000) (n7 n8:Int) (s2:ByteArray) (n9:Int) (hi:l2[n4.toNat]? =some (.agg [.int .i64 n7,.int .i64 n8,.str s2,.int .i64 n9])) (p1:Int) (hp1:p1=n4+1) (L4:List D) (hL4:L4=fs.set k.toNat (.agg [.int .i64 n3,.int .i64 p1,.lst l1]))
include fs st c_0 c_1 hst k hk hk0 hkb n3 n4 l1 hf hSl h3 s1 n5 n6 l2 hc h4 h4b n7 n8 s2 n9 hi p1 hp1 L4 hL4
theorem Ip (hop:n7=1):o.call 100 [.agg [Al c_0,Al c_1],.ptr (1,0) 0] [some (Ob (1,1) (1,2)),Op fs,Os st]=some ⟨.tup [.agg [Ai 0,Ai 0,As ⟨#[]⟩,.emp],Ai 7],[some (Ob (1,1) (0,0)),Op L4,none],[Os (st++[(.agg [.int .i64 1,.int .i64 n8,.str ⟨#[]⟩,.lst []])])]⟩:=by
 have hb:=hst.1;obtain ⟨n1,e1,g1⟩:=aB ho fs;obtain ⟨n2,e2⟩:=kx (o.ar .sub .i64 n1 1);try have g2:n2=n1-1:=e2.symm.trans (fP ho (by omega) (by omega))
 obtain rfl:n2=k:=by omega
 have hlk:n2.toNat<fs.length:=(ai.1 hf).1;have e3:=av ho hk0 hf;have e4:=av ho h3 hc;have e5:=av ho h4 hi;obtain ⟨n10,e6⟩:=kx (o.ar .add .i64 n4 1);try have g6:n10=n4+1:=e6.symm.trans (cM ho (by omega) (by omega))
 obtain ⟨l3,rfl,e7⟩:∃z,z=L4/\o.set fs n2 (.agg [.int .i64 n3,.int .i64 n10,.lst l1])=z:=⟨_,rfl,by rw [ho.set,hL4,show n10=p1 by omega]⟩
 have hg4:l3[n2.toNat]? =some (.agg [.int .i64 n3,.int .i64 p1,.lst l1]):=by rw [hL4];exact bU hlk
 have hlen4:l3.length=fs.length:=by rw [hL4,List.length_set]
 have e8:o.cmp .eql n7 8=false:=by first | assumption | exact bG ho (by omega)
 have g8:=kB ho e8;have e9:o.cmp .eql n7 9=false:=by first | assumption | exact bG ho (by omega)
 have g9:=kB ho e9;have e10:o.cmp .eql n7 10=false:=by first | assumption | exact bG ho (by omega)
 have g10:=kB ho e10;have e11:o.cmp .eql n7 11=false:=by first | assumption | exact bG ho (by omega)
 have g11:=kB ho e11;have e12:o.cmp .eql n7 12=false:=by first | assumption | exact bG ho (by omega)
 have g12:=kB ho e12;obtain ⟨n11,l4,ha,hl9,e13⟩:∃a b,(0:Int)=a/\st++[(.agg [.int .i64 1,.int .i64 n8,.str ⟨#[]⟩,.lst []])]=b/\o.call 189 [.ptr (1,0) 0,.prow (1,1) (192,3) n2 0,.agg [Ai n7,Ai n8,As s2,Ai n9]] [some (Ob (1,1) (1,2)),Op l3,Os st]=some ⟨Ai a,[some (Ob (1,1) (0,0)),Op l3,none],[Os b]⟩:=⟨_,_,rfl,rfl,MQ ho l3 st hst n2 n7 n8 s2 n9 hop⟩
 rcases cH ho n11 0 with ⟨e14,g14⟩|⟨e14,g14⟩
 ·rw [hl9];exact (ho.aq (by cbv;repeat (simp only [e1,e2,e3,e4,e5,e6,e7,e8,e9,e10,e11,e12,e13,e14];try cbv)):o.call 100 [.agg [Al c_0,Al c_1],.ptr (1,0) 0] [some (Ob (1,1) (1,2)),Op fs,Os st]=some ⟨.tup [.agg [Ai 0,Ai 0,As ⟨#[]⟩,.emp],Ai 7],[some (Ob (1,1) (0,0)),Op l3,none],[Os l4]⟩)
 ·exact absurd ha.symm g14
theorem Iq (hop:n7=2):o.call 100 [.agg [Al c_0,Al c_1],.ptr (1,0) 0] [some (Ob (1,1) (1,2)),Op fs,Os st]=some ⟨.tup [.agg [Ai 0,Ai 0,As ⟨#[]⟩,.emp],Ai 7],[some (Ob (1,1) (0,0)),Op L4,none],[Os (st++[(.agg [.int .i64 2,.int .i64 0,.str s2,.lst []])])]⟩:=by
 have hb:=hst.1;obtain ⟨n1,e1,g1⟩:=aB ho fs;obtain ⟨n2,e2⟩:=kx (o.ar .sub .i64 n1 1);try have g2:n2=n1-1:=e2.symm.trans (fP ho (by omega) (by omega))
 obtain rfl:n2=k:=by omega
 have hlk:n2.toNat<fs.length:=(ai.1 hf).1;have e3:=av ho hk0 hf;have e4:=av ho h3 hc;have e5:=av ho h4 hi;obtain ⟨n10,e6⟩:=kx (o.ar .add .i64 n4 1);try have g6:n10=n4+1:=e6.symm.trans (cM ho (by omega) (by omega))
 obtain ⟨l3,rfl,e7⟩:∃z,z=L4/\o.set fs n2 (.agg [.int .i64 n3,.int .i64 n10,.lst l1])=z:=⟨_,rfl,by rw [ho.set,hL4,show n10=p1 by omega]⟩
 have hg4:l3[n2.toNat]? =some (.agg [.int .i64 n3,.int .i64 p1,.lst l1]):=by rw [hL4];exact bU hlk
 have hlen4:l3.length=fs.length:=by rw [hL4,List.length_set]
 have e8:o.cmp .eql n7 8=false:=by first | assumption | exact bG ho (by omega)
 have g8:=kB ho e8;have e9:o.cmp .eql n7 9=false:=by first | assumption | exact bG ho (by omega)
 have g9:=kB ho e9;have e10:o.cmp .eql n7 10=false:=by first | assumption | exact bG ho (by omega)
 have g10:=kB ho e10;have e11:o.cmp .eql n7 11=false:=by first | assumption | exact bG ho (by omega)
 have g11:=kB ho e11;have e12:o.cmp .eql n7 12=false:=by first | assumption | exact bG ho (by omega)
 have g12:=kB ho e12;obtain ⟨n11,l4,ha,hl9,e13⟩:∃a b,(0:Int)=a/\st++[(.agg [.int .i64 2,.int .i64 0,.str s2,.lst []])]=b/\o.call 189 [.ptr (1,0) 0,.prow (1,1) (192,3) n2 0,.agg [Ai n7,Ai n8,As s2,Ai n9]] [some (Ob (1,1) (1,2)),Op l3,Os st]=some ⟨Ai a,[some (Ob (1,1) (0,0)),Op l3,none],[Os b]⟩:=⟨_,_,rfl,rfl,MR ho l3 st hst n2 n7 n8 s2 n9 hop⟩
 rcases cH ho n11 0 with ⟨e14,g14⟩|⟨e14,g14⟩
 ·rw [hl9];exact (ho.aq (by cbv;repeat (simp only [e1,e2,e3,e4,e5,e6,e7,e8,e9,e10,e11,e12,e13,e14];try cbv)):o.call 100 [.agg [Al c_0,Al c_1],.ptr (1,0) 0] [some (Ob (1,1) (1,2)),Op fs,Os st]=some ⟨.tup [.agg [Ai 0,Ai 0,As ⟨#[]⟩,.emp],Ai 7],[some (Ob (1,1) (0,0)),Op l3,none],[Os l4]⟩)
 ·exact absurd ha.symm g14
theorem Ir (hop:n7=3) (h8:0<=n8) (t_0 t_1:Int) (t_2:ByteArray) (t_3:List D) (hx:l1[n8.toNat]? =some (.agg [.int .i64 t_0,.int .i64 t_1,.str t_2,.lst t_3])):o.call 100 [.agg [Al c_0,Al c_1],.ptr (1,0) 0] [some (Ob (1,1) (1,2)),Op fs,Os st]=some (if bY (.agg [.int .i64 t_0,.int .i64 t_1,.str t_2,.lst t_3]) lD=true then ⟨.tup [.agg [Ai 0,Ai 0,As ⟨#[]⟩,.emp],Ai 1],[some (Ob (1,1) (1,2)),Op L4,Os st],[]⟩else ⟨.tup [.agg [Ai 0,Ai 0,As ⟨#[]⟩,.emp],Ai 7],[some (Ob (1,1) (0,0)),Op L4,none],[Os (st++[(.agg [.int .i64 t_0,.int .i64 t_1,.str t_2,.lst t_3])])]⟩):=by
 have hb:=hst.1;obtain ⟨n1,e1,g1⟩:=aB ho fs;obtain ⟨n2,e2⟩:=kx (o.ar .sub .i64 n1 1);try have g2:n2=n1-1:=e2.symm.trans (fP ho (by omega) (by omega))
 obtain rfl:n2=k:=by omega
 have hlk:n2.toNat<fs.length:=(ai.1 hf).1;have e3:=av ho hk0 hf;have e4:=av ho h3 hc;have e5:=av ho h4 hi;obtain ⟨n10,e6⟩:=kx (o.ar .add .i64 n4 1);try have g6:n10=n4+1:=e6.symm.trans (cM ho (by omega) (by omega))
 obtain ⟨l3,rfl,e7⟩:∃z,z=L4/\o.set fs n2 (.agg [.int .i64 n3,.int .i64 n10,.lst l1])=z:=⟨_,rfl,by rw [ho.set,hL4,show n10=p1 by omega]⟩
 have hg4:l3[n2.toNat]? =some (.agg [.int .i64 n3,.int .i64 p1,.lst l1]):=by rw [hL4];exact bU hlk
 have hlen4:l3.length=fs.length:=by rw [hL4,List.length_set]
 have e8:o.cmp .eql n7 8=false:=by first | assumption | exact bG ho (by omega)
 have g8:=kB ho e8;have e9:o.cmp .eql n7 9=false:=by first | assumption | exact bG ho (by omega)
 have g9:=kB ho e9;have e10:o.cmp .eql n7 10=false:=by first | assumption | exact bG ho (by omega)
 have g10:=kB ho e10;have e11:o.cmp .eql n7 11=false:=by first | assumption | exact bG ho (by omega)
 have g11:=kB ho e11;have e12:o.cmp .eql n7 12=false:=by first | assumption | exact bG ho (by omega)
 have g12:=kB ho e12;have hv:=MU ho l3 st hst n2 n7 n8 s2 n9 hop hk0 n3 p1 l1 hg4 h8 t_0 t_1 t_2 t_3 hx (hSl _ (List.mem_of_getElem? hx));cases hz:bY (.agg [.int .i64 t_0,.int .i64 t_1,.str t_2,.lst t_3]) lD
 ·obtain ⟨n11,l4,ha,hl9,e13⟩:∃a b,(0:Int)=a/\st++[(.agg [.int .i64 t_0,.int .i64 t_1,.str t_2,.lst t_3])]=b/\o.call 189 [.ptr (1,0) 0,.prow (1,1) (192,3) n2 0,.agg [Ai n7,Ai n8,As s2,Ai n9]] [some (Ob (1,1) (1,2)),Op l3,Os st]=some ⟨Ai a,[some (Ob (1,1) (0,0)),Op l3,none],[Os b]⟩:=⟨_,_,rfl,rfl,by rw [hz]at hv;exact hv⟩
  rcases cH ho n11 0 with ⟨e14,g14⟩|⟨e14,g14⟩
  ·rw [if_neg Bool.false_ne_true,hl9];exact (ho.aq (by cbv;repeat (simp only [e1,e2,e3,e4,e5,e6,e7,e8,e9,e10,e11,e12,e13,e14];try cbv)):o.call 100 [.agg [Al c_0,Al c_1],.ptr (1,0) 0] [some (Ob (1,1) (1,2)),Op fs,Os st]=some ⟨.tup [.agg [Ai 0,Ai 0,As ⟨#[]⟩,.emp],Ai 7],[some (Ob (1,1) (0,0)),Op l3,none],[Os l4]⟩)
  ·exact absurd ha.symm g14
 ·obtain ⟨n11,ha,e13⟩:∃a,(1:Int)=a/\o.call 189 [.ptr (1,0) 0,.prow (1,1) (192,3) n2 0,.agg [Ai n7,Ai n8,As s2,Ai n9]] [some (Ob (1,1) (1,2)),Op l3,Os st]=some ⟨Ai a,[some (Ob (1,1) (1,2)),Op l3,Os st],[]⟩:=⟨_,rfl,by rw [hz]at hv;exact hv⟩
  rcases cH ho n11 0 with ⟨e14,g14⟩|⟨e14,g14⟩
  ·omega
  ·rw [if_pos rfl,ha];exact (ho.aq (by cbv;repeat (simp only [e1,e2,e3,e4,e5,e6,e7,e8,e9,e10,e11,e12,e13,e14];try cbv)):o.call 100 [.agg [Al c_0,Al c_1],.ptr (1,0) 0] [some (Ob (1,1) (1,2)),Op fs,Os st]=some ⟨.tup [.agg [Ai 0,Ai 0,As ⟨#[]⟩,.emp],Ai n11],[some (Ob (1,1) (1,2)),Op l3,Os st],[]⟩)
theorem Iu (hop:n7=4) (h80:0<=n8) (h81:n8<=20) (h82:n8<=st.length):o.call 100 [.agg [Al c_0,Al c_1],.ptr (1,0) 0] [some (Ob (1,1) (1,2)),Op fs,Os st]=some ⟨.tup [.agg [Ai 0,Ai 0,As ⟨#[]⟩,.emp],Ai (if (gu o 4 (st.drop ((st.length:Int)-n8).toNat)).2=0 then 7 else (gu o 4 (st.drop ((st.length:Int)-n8).toNat)).2)],[some (Ob (1,1) (0,0)),Op L4,none],[Os (if (gu o 4 (st.drop ((st.length:Int)-n8).toNat)).2=0 then st.take ((st.length:Int)-n8).toNat++[(gu o 4 (st.drop ((st.length:Int)-n8).toNat)).1]else st.take ((st.length:Int)-n8).toNat)]⟩:=by
 have hb:=hst.1;refine ho.aI fun R Q=> ?_
 obtain ⟨n1,e1,g1⟩:=aB ho fs;obtain ⟨n2,e2,g2⟩:=aS ho n1 1;obtain rfl:n2=k:=by omega
 have hlk:n2.toNat<fs.length:=(ai.1 hf).1;have e3:=av ho hk0 hf;have e4:=av ho h3 hc;have e5:=av ho h4 hi;obtain ⟨n10,e6,g6⟩:=bA ho n4 1;obtain ⟨l3,rfl,e7⟩:∃z,z=L4/\o.set fs n2 (.agg [.int .i64 n3,.int .i64 n10,.lst l1])=z:=⟨_,rfl,by rw [ho.set,hL4,show n10=p1 by omega]⟩
 have hg4:l3[n2.toNat]? =some (.agg [.int .i64 n3,.int .i64 p1,.lst l1]):=by rw [hL4];exact bU hlk
 have hlen4:l3.length=fs.length:=by rw [hL4,List.length_set]
 conv=>lhs;cbv;rw [e1];cbv;rw [e2];cbv;rw [e3];cbv;(try (rw [e3];cbv));rw [e4];cbv;(try (rw [e3];cbv));rw [e5];cbv;(try (rw [e3];cbv));rw [e6];cbv;(try (rw [e3];cbv));rw [e7];cbv
 iterate 5 (conv=>lhs;simp (disch:=omega) only [bG ho];cbv)
 obtain ⟨n11,l4,ha,hl9,e13⟩:∃a b,(gu o 4 (st.drop ((st.length:Int)-n8).toNat)).2=a/\(if (gu o 4 (st.drop ((st.length:Int)-n8).toNat)).2=0 then st.take ((st.length:Int)-n8).toNat++[(gu o 4 (st.drop ((st.length:Int)-n8).toNat)).1]else st.take ((st.length:Int)-n8).toNat)=b/\o.call 189 [.ptr (1,0) 0,.prow (1,1) (192,3) n2 0,.agg [Ai n7,Ai n8,As s2,Ai n9]] [some (Ob (1,1) (1,2)),Op l3,Os st]=some ⟨Ai a,[some (Ob (1,1) (0,0)),Op l3,none],[Os b]⟩:=⟨_,_,rfl,rfl,MV ho l3 st hst n2 n7 n8 s2 n9 hop h80 h81 h82⟩
 conv=>lhs;rw [e13];cbv
 rcases cH ho n11 0 with ⟨e14,g14⟩|⟨e14,g14⟩<;>(conv=>lhs;rw [e14];cbv)
 ·subst Q;rw [hl9,ha];rw [if_pos g14];try rfl
 ·subst Q;rw [hl9,ha];rw [if_neg g14];try rfl
theorem Iv (hop:n7=5) (h80:0<=n8) (h81:n8<=20) (h82:n8<=st.length):o.call 100 [.agg [Al c_0,Al c_1],.ptr (1,0) 0] [some (Ob (1,1) (1,2)),Op fs,Os st]=some ⟨.tup [.agg [Ai 0,Ai 0,As ⟨#[]⟩,.emp],Ai (if (gu o 5 (st.drop ((st.length:Int)-n8).toNat)).2=0 then 7 else (gu o 5 (st.drop ((st.length:Int)-n8).toNat)).2)],[some (Ob (1,1) (0,0)),Op L4,none],[Os (if (gu o 5 (st.drop ((st.length:Int)-n8).toNat)).2=0 then st.take ((st.length:Int)-n8).toNat++[(gu o 5 (st.drop ((st.length:Int)-n8).toNat)).1]else st.take ((st.length:Int)-n8).toNat)]⟩:=by
 have hb:=hst.1;refine ho.aI fun R Q=> ?_
 obtain ⟨n1,e1,g1⟩:=aB ho fs;obtain ⟨n2,e2,g2⟩:=aS ho n1 1;obtain rfl:n2=k:=by omega
 have hlk:n2.toNat<fs.length:=(ai.1 hf).1;have e3:=av ho hk0 hf;have e4:=av ho h3 hc;have e5:=av ho h4 hi;obtain ⟨n10,e6,g6⟩:=bA ho n4 1;obtain ⟨l3,rfl,e7⟩:∃z,z=L4/\o.set fs n2 (.agg [.int .i64 n3,.int .i64 n10,.lst l1])=z:=⟨_,rfl,by rw [ho.set,hL4,show n10=p1 by omega]⟩
 have hg4:l3[n2.toNat]? =some (.agg [.int .i64 n3,.int .i64 p1,.lst l1]):=by rw [hL4];exact bU hlk
 have hlen4:l3.length=fs.length:=by rw [hL4,List.length_set]
 conv=>lhs;cbv;rw [e1];cbv;rw [e2];cbv;rw [e3];cbv;(try (rw [e3];cbv));rw [e4];cbv;(try (rw [e3];cbv));rw [e5];cbv;(try (rw [e3];cbv));rw [e6];cbv;(try (rw [e3];cbv));rw [e7];cbv
 iterate 5 (conv=>lhs;simp (disch:=omega) only [bG ho];cbv)
 obtain ⟨n11,l4,ha,hl9,e13⟩:∃a b,(gu o 5 (st.drop ((st.length:Int)-n8).toNat)).2=a/\(if (gu o 5 (st.drop ((st.length:Int)-n8).toNat)).2=0 then st.take ((st.length:Int)-n8).toNat++[(gu o 5 (st.drop ((st.length:Int)-n8).toNat)).1]else st.take ((st.length:Int)-n8).toNat)=b/\o.call 189 [.ptr (1,0) 0,.prow (1,1) (192,3) n2 0,.agg [Ai n7,Ai n8,As s2,Ai n9]] [some (Ob (1,1) (1,2)),Op l3,Os st]=some ⟨Ai a,[some (Ob (1,1) (0,0)),Op l3,none],[Os b]⟩:=⟨_,_,rfl,rfl,MW ho l3 st hst n2 n7 n8 s2 n9 hop h80 h81 h82⟩
 conv=>lhs;rw [e13];cbv
 rcases cH ho n11 0 with ⟨e14,g14⟩|⟨e14,g14⟩<;>(conv=>lhs;rw [e14];cbv)
 ·subst Q;rw [hl9,ha];rw [if_pos g14];try rfl
 ·subst Q;rw [hl9,ha];rw [if_neg g14];try rfl
theorem Iw (hop:n7=6) (h80:1<=n8) (h81:n8<=20) (h82:n8<=st.length):o.call 100 [.agg [Al c_0,Al c_1],.ptr (1,0) 0] [some (Ob (1,1) (1,2)),Op fs,Os st]=some ⟨.tup [.agg [Ai 0,Ai 0,As ⟨#[]⟩,.emp],Ai (if (gu o 6 (st.drop ((st.length:Int)-n8).toNat)).2=0 then 7 else (gu o 6 (st.drop ((st.length:Int)-n8).toNat)).2)],[some (Ob (1,1) (0,0)),Op L4,none],[Os (if (gu o 6 (st.drop ((st.length:Int)-n8).toNat)).2=0 then st.take ((st.length:Int)-n8).toNat++[(gu o 6 (st.drop ((st.length:Int)-n8).toNat)).1]else st.take ((st.length:Int)-n8).toNat)]⟩:=by
 have hb:=hst.1;refine ho.aI fun R Q=> ?_
 obtain ⟨n1,e1,g1⟩:=aB ho fs;obtain ⟨n2,e2,g2⟩:=aS ho n1 1;obtain rfl:n2=k:=by omega
 have hlk:n2.toNat<fs.length:=(ai.1 hf).1;have e3:=av ho hk0 hf;have e4:=av ho h3 hc;have e5:=av ho h4 hi;obtain ⟨n10,e6,g6⟩:=bA ho n4 1;obtain ⟨l3,rfl,e7⟩:∃z,z=L4/\o.set fs n2 (.agg [.int .i64 n3,.int .i64 n10,.lst l1])=z:=⟨_,rfl,by rw [ho.set,hL4,show n10=p1 by omega]⟩
 have hg4:l3[n2.toNat]? =some (.agg [.int .i64 n3,.int .i64 p1,.lst l1]):=by rw [hL4];exact bU hlk
 have hlen4:l3.length=fs.length:=by rw [hL4,List.length_set]
 conv=>lhs;cbv;rw [e1];cbv;rw [e2];cbv;rw [e3];cbv;(try (rw [e3];cbv));rw [e4];cbv;(try (rw [e3];cbv));rw [e5];cbv;(try (rw [e3];cbv));rw [e6];cbv;(try (rw [e3];cbv));rw [e7];cbv
 iterate 5 (conv=>lhs;simp (disch:=omega) only [bG ho];cbv)
 obtain ⟨n11,l4,ha,hl9,e13⟩:∃a b,(gu o 6 (st.drop ((st.length:Int)-n8).toNat)).2=a/\(if (gu o 6 (st.drop ((st.length:Int)-n8).toNat)).2=0 then st.take ((st.length:Int)-n8).toNat++[(gu o 6 (st.drop ((st.length:Int)-n8).toNat)).1]else st.take ((st.length:Int)-n8).toNat)=b/\o.call 189 [.ptr (1,0) 0,.prow (1,1) (192,3) n2 0,.agg [Ai n7,Ai n8,As s2,Ai n9]] [some (Ob (1,1) (1,2)),Op l3,Os st]=some ⟨Ai a,[some (Ob (1,1) (0,0)),Op l3,none],[Os b]⟩:=⟨_,_,rfl,rfl,MX ho l3 st hst n2 n7 n8 s2 n9 hop h80 h81 h82⟩
 conv=>lhs;rw [e13];cbv
 rcases cH ho n11 0 with ⟨e14,g14⟩|⟨e14,g14⟩<;>(conv=>lhs;rw [e14];cbv)
 ·subst Q;rw [hl9,ha];rw [if_pos g14];try rfl
 ·subst Q;rw [hl9,ha];rw [if_neg g14];try rfl
theorem Iy (hop:n7=7) (h82:2<=(st.length:Int)) (a_0 a_1:Int) (a_2:ByteArray) (a_3:List D) (hA:(st.drop ((st.length:Int)-2).toNat)[0]? =some (.agg [.int .i64 a_0,.int .i64 a_1,.str a_2,.lst a_3])) (b_0 b_1:Int) (b_2:ByteArray) (b_3:List D) (hB:(st.drop ((st.length:Int)-2).toNat)[1]? =some (.agg [.int .i64 b_0,.int .i64 b_1,.str b_2,.lst b_3])):o.call 100 [.agg [Al c_0,Al c_1],.ptr (1,0) 0] [some (Ob (1,1) (1,2)),Op fs,Os st]=some ⟨.tup [.agg [Ai 0,Ai 0,As ⟨#[]⟩,.emp],Ai (if (zF o s2 (.agg [.int .i64 a_0,.int .i64 a_1,.str a_2,.lst a_3]) (.agg [.int .i64 b_0,.int .i64 b_1,.str b_2,.lst b_3])).2=0 then 7 else (zF o s2 (.agg [.int .i64 a_0,.int .i64 a_1,.str a_2,.lst a_3]) (.agg [.int .i64 b_0,.int .i64 b_1,.str b_2,.lst b_3])).2)],[some (Ob (1,1) (0,0)),Op L4,none],[Os (if (zF o s2 (.agg [.int .i64 a_0,.int .i64 a_1,.str a_2,.lst a_3]) (.agg [.int .i64 b_0,.int .i64 b_1,.str b_2,.lst b_3])).2=0 then st.take ((st.length:Int)-2).toNat++[(zF o s2 (.agg [.int .i64 a_0,.int .i64 a_1,.str a_2,.lst a_3]) (.agg [.int .i64 b_0,.int .i64 b_1,.str b_2,.lst b_3])).1]else st.take ((st.length:Int)-2).toNat)]⟩:=by
 have hb:=hst.1;refine ho.aI fun R Q=> ?_
 obtain ⟨n1,e1,g1⟩:=aB ho fs;obtain ⟨n2,e2,g2⟩:=aS ho n1 1;obtain rfl:n2=k:=by omega
 have hlk:n2.toNat<fs.length:=(ai.1 hf).1;have e3:=av ho hk0 hf;have e4:=av ho h3 hc;have e5:=av ho h4 hi;obtain ⟨n10,e6,g6⟩:=bA ho n4 1;obtain ⟨l3,rfl,e7⟩:∃z,z=L4/\o.set fs n2 (.agg [.int .i64 n3,.int .i64 n10,.lst l1])=z:=⟨_,rfl,by rw [ho.set,hL4,show n10=p1 by omega]⟩
 have hg4:l3[n2.toNat]? =some (.agg [.int .i64 n3,.int .i64 p1,.lst l1]):=by rw [hL4];exact bU hlk
 have hlen4:l3.length=fs.length:=by rw [hL4,List.length_set]
 conv=>lhs;cbv;rw [e1];cbv;rw [e2];cbv;rw [e3];cbv;(try (rw [e3];cbv));rw [e4];cbv;(try (rw [e3];cbv));rw [e5];cbv;(try (rw [e3];cbv));rw [e6];cbv;(try (rw [e3];cbv));rw [e7];cbv
 iterate 5 (conv=>lhs;simp (disch:=omega) only [bG ho];cbv)
 obtain ⟨n11,l4,ha,hl9,e13⟩:∃a b,(zF o s2 (.agg [.int .i64 a_0,.int .i64 a_1,.str a_2,.lst a_3]) (.agg [.int .i64 b_0,.int .i64 b_1,.str b_2,.lst b_3])).2=a/\(if (zF o s2 (.agg [.int .i64 a_0,.int .i64 a_1,.str a_2,.lst a_3]) (.agg [.int .i64 b_0,.int .i64 b_1,.str b_2,.lst b_3])).2=0 then st.take ((st.length:Int)-2).toNat++[(zF o s2 (.agg [.int .i64 a_0,.int .i64 a_1,.str a_2,.lst a_3]) (.agg [.int .i64 b_0,.int .i64 b_1,.str b_2,.lst b_3])).1]else st.take ((st.length:Int)-2).toNat)=b/\o.call 189 [.ptr (1,0) 0,.prow (1,1) (192,3) n2 0,.agg [Ai n7,Ai n8,As s2,Ai n9]] [some (Ob (1,1) (1,2)),Op l3,Os st]=some ⟨Ai a,[some (Ob (1,1) (0,0)),Op l3,none],[Os b]⟩:=⟨_,_,rfl,rfl,MY ho l3 st hst n2 n7 n8 s2 n9 hop h82 _ _ _ _ hA _ _ _ _ hB⟩
 conv=>lhs;rw [e13];cbv
 rcases cH ho n11 0 with ⟨e14,g14⟩|⟨e14,g14⟩<;>(conv=>lhs;rw [e14];cbv)
 ·subst Q;rw [hl9,ha];rw [if_pos g14];try rfl
 ·subst Q;rw [hl9,ha];rw [if_neg g14];try rfl
theorem Iz (hop:n7=8) (hC:∀x∈c_0,tH x) (hCb:(c_0.length:Int)<=1048576) (at':Int) (hat:ja c_0 s2=at') (q0:ByteArray) (m1 m2:Int) (q1:List D) (ha0:0<=at') (hx:c_0[at'.toNat]? =some (.agg [.str q0,.int .i64 m1,.int .i64 m2,.lst q1])) (hm1:n8<=m2) (hm2:m2<=400) (h80:0<=n8) (h82:n8<=st.length) (hf3:∀x∈fs,x.cells.length=3) (hfl:(fs.length:Int)<=40):o.call 100 [.agg [Al c_0,Al c_1],.ptr (1,0) 0] [some (Ob (1,1) (1,2)),Op fs,Os st]=some (if (fs.length:Int)=40 then ⟨.tup [.agg [Ai 0,Ai 0,As ⟨#[]⟩,.emp],Ai 5],[some (Ob (1,1) (1,2)),Op L4,Os st],[]⟩else ⟨.tup [.agg [Ai 0,Ai 0,As ⟨#[]⟩,.emp],Ai 7],[some (Ob (0,0) (0,1)),none,none],[Op (L4++[(.agg [.int .i64 at',.int .i64 0,.lst (cn m2 (st.drop ((st.length:Int)-n8).toNat))])]),Os (st.take ((st.length:Int)-n8).toNat)]⟩):=by
 have hb:=hst.1;refine ho.aI fun R Q=> ?_
 obtain ⟨n1,e1,g1⟩:=aB ho fs;obtain ⟨n2,e2,g2⟩:=aS ho n1 1;obtain rfl:n2=k:=by omega
 have hlk:n2.toNat<fs.length:=(ai.1 hf).1;have e3:=av ho hk0 hf;have e4:=av ho h3 hc;have e5:=av ho h4 hi;obtain ⟨n10,e6,g6⟩:=bA ho n4 1;obtain ⟨l3,rfl,e7⟩:∃z,z=L4/\o.set fs n2 (.agg [.int .i64 n3,.int .i64 n10,.lst l1])=z:=⟨_,rfl,by rw [ho.set,hL4,show n10=p1 by omega]⟩
 have hg4:l3[n2.toNat]? =some (.agg [.int .i64 n3,.int .i64 p1,.lst l1]):=by rw [hL4];exact bU hlk
 have hlen4:l3.length=fs.length:=by rw [hL4,List.length_set]
 obtain ⟨n11,e9,g9⟩:=aB ho l3;conv=>lhs;cbv;rw [e1];cbv;rw [e2];cbv;rw [e3];cbv;(try (rw [e3];cbv));rw [e4];cbv;(try (rw [e3];cbv));rw [e5];cbv;(try (rw [e3];cbv));rw [e6];cbv;(try (rw [e3];cbv));rw [e7];cbv;simp (disch:=omega) only [cw ho];cbv;rw [e9];cbv
 rcases ak ho n11 40 with ⟨e10,g10⟩|⟨e10,g10⟩<;>(conv=>lhs;rw [e10];cbv)
 ·obtain ⟨l4,l5,hl5,hl6,e11⟩:∃a b,a=st.drop ((st.length:Int)-n8).toNat/\b=st.take ((st.length:Int)-n8).toNat/\o.call 186 [.ptr (1,0) 0,Ai n8] [some (Ob (1,1) (1,2)),Op l3,Os st]=some ⟨.arr (0,0) (31,4) none false,[some (Ob (1,1) (0,1)),Op l3,none],[Os a,Os b]⟩:=⟨_,_,rfl,rfl,Bx ho l3 st n8 hst (by omega) (by omega) _ rfl⟩
  have hs5:stk o l4:=by rw [hl5];exact iB hst
  conv=>lhs;rw [e11];cbv
  have e12:o.fits 3 40 l3=true:=by exact cX ho (by omega) (by decide) (fun z hz=>by
   rw [hL4]at hz;rcases List.mem_or_eq_of_mem_set hz with h | h
   ·exact hf3 z h
   ·rw [h];rfl)
  obtain ⟨n12,hn12,e13⟩:∃n12,n12=at'/\o.call 85 [.agg [Al c_0,Al c_1],As s2] []=Ar (Ai n12):=⟨_,rfl,(ru ho c_0 c_1 s2 hC hCb).trans (by rw [hat])⟩
  have hla:(l4.length:Int)<=m2:=by rw [hl5,List.length_drop];omega
  obtain ⟨n13,n14,l6,⟨hw1,hw2,hw3⟩,e14⟩:∃a b c,(a=at'/\b=0/\c=cn m2 l4)/\o.call 187 [.agg [Al c_0,Al c_1],Ai n12,Al l4] []=Ar (.agg [Ai a,Ai b,Al c]):=⟨_,_,_,⟨rfl,rfl,rfl⟩,by rw [hn12];exact w8 ho c_0 c_1 at' l4 q0 m1 m2 q1 ha0 hx hla hm2 hs5.2⟩
  obtain ⟨l7,happ,e15⟩:∃z,z=l3++[(.agg [.int .i64 at',.int .i64 0,.lst (cn m2 l4)])]/\o.app l3 [.agg [.int .i64 n13,.int .i64 n14,.lst l6]]=z:=⟨_,rfl,(ho.app _ _).trans (by rw [hw1,hw2,hw3])⟩
  conv=>lhs;rw [e12];cbv;rw [e13];cbv;rw [e14];cbv;rw [e15];cbv
  have e16:o.fits 3 40 l7=true:=cX ho (by rw [happ,List.length_append];simp only [List.length_cons,List.length_nil];omega) (by decide) (fun z hz=>by
   rw [happ]at hz;rcases List.mem_append.1 hz with h | h
   ·rw [hL4]at h;rcases List.mem_or_eq_of_mem_set h with h | h
    ·exact hf3 z h
    ·rw [h];rfl
   ·rw [List.mem_singleton.1 h];rfl)
  conv=>lhs;rw [e16];cbv
  subst Q;rw [if_neg (by omega),<-hl5,<-hl6,<-happ];try rfl
 ·subst Q;rw [if_pos (by omega)];try rfl
theorem IA (hop:n7=9) (h1:1<=(st.length:Int)) (t_0 t_1:Int) (t_2:ByteArray) (t_3:List D) (ht:st[((st.length:Int)-1).toNat]? =some (.agg [.int .i64 t_0,.int .i64 t_1,.str t_2,.lst t_3])) (sl:Int) (hS:(l1.length:Int)=sl) (hsl:sl<=400) (hx1:0<=n8) (p_0 p_1:Int) (p_2:ByteArray) (p_3:List D) (hp:c_1[n8.toNat]? =some (.agg [.int .i64 p_0,.int .i64 p_1,.str p_2,.lst p_3])) {m:Nat} (hP:Tm m (.agg [.int .i64 p_0,.int .i64 p_1,.str p_2,.lst p_3])) (hM:cY o sl 10 (.agg [.int .i64 p_0,.int .i64 p_1,.str p_2,.lst p_3])<=300):o.call 100 [.agg [Al c_0,Al c_1],.ptr (1,0) 0] [some (Ob (1,1) (1,2)),Op fs,Os st]=some (if (aC 10 (.agg [.int .i64 p_0,.int .i64 p_1,.str p_2,.lst p_3]) (.agg [.int .i64 t_0,.int .i64 t_1,.str t_2,.lst t_3]) l1).1=true then ⟨.tup [.agg [Ai 0,Ai 0,As ⟨#[]⟩,.emp],Ai 7],[some (Ob (1,1) (0,0)),Op (fs.set k.toNat (.agg [.int .i64 n3,.int .i64 p1,.lst (aC 10 (.agg [.int .i64 p_0,.int .i64 p_1,.str p_2,.lst p_3]) (.agg [.int .i64 t_0,.int .i64 t_1,.str t_2,.lst t_3]) l1).2])),none],[Os (st.take ((st.length:Int)-1).toNat)]⟩else ⟨.tup [.agg [Ai 0,Ai 0,As ⟨#[]⟩,.emp],Ai 7],[some (Ob (1,1) (1,2)),Op (fs.set k.toNat (.agg [.int .i64 n3,.int .i64 n9,.lst l1])),Os st],[]⟩):=by
 have hb:=hst.1;refine ho.aI fun R Q=> ?_
 obtain ⟨n1,e1,g1⟩:=aB ho fs;obtain ⟨n2,e2,g2⟩:=aS ho n1 1;obtain rfl:n2=k:=by omega
 have hlk:n2.toNat<fs.length:=(ai.1 hf).1;have e3:=av ho hk0 hf;have e4:=av ho h3 hc;have e5:=av ho h4 hi;obtain ⟨n10,e6,g6⟩:=bA ho n4 1;obtain ⟨l3,rfl,e7⟩:∃z,z=L4/\o.set fs n2 (.agg [.int .i64 n3,.int .i64 n10,.lst l1])=z:=⟨_,rfl,by rw [ho.set,hL4,show n10=p1 by omega]⟩
 have hg4:l3[n2.toNat]? =some (.agg [.int .i64 n3,.int .i64 p1,.lst l1]):=by rw [hL4];exact bU hlk
 have hlen4:l3.length=fs.length:=by rw [hL4,List.length_set]
 conv=>lhs;cbv;rw [e1];cbv;rw [e2];cbv;rw [e3];cbv;(try (rw [e3];cbv));rw [e4];cbv;(try (rw [e3];cbv));rw [e5];cbv;(try (rw [e3];cbv));rw [e6];cbv;(try (rw [e3];cbv));rw [e7];cbv
 iterate 2 (conv=>lhs;simp (disch:=omega) only [bG ho,cw ho];cbv)
 obtain ⟨n11,n12,l4,⟨hq1,hq2,hq3⟩,e10⟩:∃a b c,(a=n3/\b=p1/\c=l1)/\o.dm l3 n2=some (.agg [.int .i64 a,.int .i64 b,.lst c]):=⟨_,_,_,⟨rfl,rfl,rfl⟩,av ho hk0 hg4⟩
 have e11:o.fits 4 56 l4=true:=by rw [hq3];exact cX ho (by omega) (by decide) (fun z hz=>MI (hSl z hz))
 obtain ⟨n13,n14,s3,l5,⟨hu1,hu2,hu3,hu4⟩,e12⟩:∃a b c d,(a=p_0/\b=p_1/\c=p_2/\d=p_3)/\o.dm c_1 n8=some (.agg [.int .i64 a,.int .i64 b,.str c,.lst d]):=⟨_,_,_,_,⟨rfl,rfl,rfl,rfl⟩,av ho hx1 hp⟩
 obtain ⟨n15,e13,g13⟩:=aB ho st;obtain ⟨n16,e14,g14⟩:=aS ho n15 1;obtain ⟨n17,n18,s4,l6,⟨hv1,hv2,hv3,hv4⟩,e15⟩:∃a b c d,(a=t_0/\b=t_1/\c=t_2/\d=t_3)/\o.dm st n16=some (.agg [.int .i64 a,.int .i64 b,.str c,.lst d]):=⟨_,_,_,_,⟨rfl,rfl,rfl,rfl⟩,av ho (by omega) (by rw [show n16=(st.length:Int)-1 by omega];exact ht)⟩
 conv=>lhs;rw [e10];cbv;rw [e11];cbv;rw [e12];cbv;rw [e13];cbv;rw [e14];cbv;rw [e15];cbv;(try (rw [e15];cbv))
 have hRT:Rt o 8 (.agg [.int .i64 t_0,.int .i64 t_1,.str t_2,.lst t_3]):=hst.2 _ (List.mem_of_getElem? ht);have hch:=match_ ho sl 10 _ _ _ _ _ hP hM _ _ _ _ hRT l1 hS hSl;obtain ⟨l7,hl7,hch⟩:∃z,z=(aC 10 (.agg [.int .i64 p_0,.int .i64 p_1,.str p_2,.lst p_3]) (.agg [.int .i64 t_0,.int .i64 t_1,.str t_2,.lst t_3]) l1).2/\o.call 188 [At n13 n14 s3 l5,At n17 n18 s4 l6,.arr (1,0) (31,4) none false] [Os l4]=some ⟨Ab (aC 10 (.agg [.int .i64 p_0,.int .i64 p_1,.str p_2,.lst p_3]) (.agg [.int .i64 t_0,.int .i64 t_1,.str t_2,.lst t_3]) l1).1,[Os z],[]⟩:=⟨_,rfl,by rw [hv1,hv2,hv3,hv4,hu1,hu2,hu3,hu4,hq3];exact hch⟩
 cases hb2:(aC 10 (.agg [.int .i64 p_0,.int .i64 p_1,.str p_2,.lst p_3]) (.agg [.int .i64 t_0,.int .i64 t_1,.str t_2,.lst t_3]) l1).1
 ·have e16:o.call 188 [At n13 n14 s3 l5,At n17 n18 s4 l6,.arr (1,0) (31,4) none false] [Os l4]=some ⟨Ab false,[Os l7],[]⟩:=by rw [hb2]at hch;exact hch
  obtain ⟨l8,hset,e17⟩:∃z,z=fs.set n2.toNat (.agg [.int .i64 n3,.int .i64 n9,.lst l1])/\o.set l3 n2 (.agg [.int .i64 n11,.int .i64 n9,.lst l4])=z:=⟨_,rfl,by rw [ho.set,hL4,List.set_set,hq1,hq3]⟩
  conv=>lhs;rw [e16];cbv;(try (rw [e10];cbv));rw [e17];cbv
  subst Q;try rw [hb2]
  rw [if_neg Bool.false_ne_true,<-hset];try rfl
 ·have e16:o.call 188 [At n13 n14 s3 l5,At n17 n18 s4 l6,.arr (1,0) (31,4) none false] [Os l4]=some ⟨Ab true,[Os l7],[]⟩:=by rw [hb2]at hch;exact hch
  obtain ⟨l8,hset,e17⟩:∃z,z=fs.set n2.toNat (.agg [.int .i64 n3,.int .i64 p1,.lst l7])/\o.set l3 n2 (.agg [.int .i64 n11,.int .i64 n12,.lst l7])=z:=⟨_,rfl,by rw [ho.set,hL4,List.set_set,hq1,hq2]⟩
  obtain ⟨l9,l10,hl5,hl6,e18⟩:∃a b,a=st.drop ((st.length:Int)-1).toNat/\b=st.take ((st.length:Int)-1).toNat/\o.call 186 [.ptr (1,0) 0,Ai 1] [some (Ob (1,1) (1,2)),Op l8,Os st]=some ⟨.arr (0,0) (31,4) none false,[some (Ob (1,1) (0,1)),Op l8,none],[Os a,Os b]⟩:=⟨_,_,rfl,rfl,Bx ho l8 st 1 hst (by omega) (by omega) _ rfl⟩
  have hs5:stk o l9:=by rw [hl5];exact iB hst
  conv=>lhs;rw [e16];cbv;(try (rw [e10];cbv));rw [e17];cbv;rw [e18];cbv
  subst Q;try rw [hb2]
  rw [if_pos rfl,<-hl7,<-hset,<-hl6];try rfl
theorem EZ (hop:n7=10):o.call 100 [.agg [Al c_0,Al c_1],.ptr (1,0) 0] [some (Ob (1,1) (1,2)),Op fs,Os st]=some ⟨.tup [.agg [Ai 0,Ai 0,As ⟨#[]⟩,.emp],Ai 7],[some (Ob (1,1) (1,2)),Op (fs.set k.toNat (.agg [.int .i64 n3,.int .i64 n9,.lst l1])),Os st],[]⟩:=by
 have hb:=hst.1;refine ho.aI fun R Q=> ?_
 obtain ⟨n1,e1,g1⟩:=aB ho fs;obtain ⟨n2,e2,g2⟩:=aS ho n1 1;obtain rfl:n2=k:=by omega
 have hlk:n2.toNat<fs.length:=(ai.1 hf).1;have e3:=av ho hk0 hf;have e4:=av ho h3 hc;have e5:=av ho h4 hi;obtain ⟨n10,e6,g6⟩:=bA ho n4 1;obtain ⟨l3,rfl,e7⟩:∃z,z=L4/\o.set fs n2 (.agg [.int .i64 n3,.int .i64 n10,.lst l1])=z:=⟨_,rfl,by rw [ho.set,hL4,show n10=p1 by omega]⟩
 have hg4:l3[n2.toNat]? =some (.agg [.int .i64 n3,.int .i64 p1,.lst l1]):=by rw [hL4];exact bU hlk
 have hlen4:l3.length=fs.length:=by rw [hL4,List.length_set]
 conv=>lhs;cbv;rw [e1];cbv;rw [e2];cbv;rw [e3];cbv;(try (rw [e3];cbv));rw [e4];cbv;(try (rw [e3];cbv));rw [e5];cbv;(try (rw [e3];cbv));rw [e6];cbv;(try (rw [e3];cbv));rw [e7];cbv
 iterate 3 (conv=>lhs;simp (disch:=omega) only [bG ho,cw ho];cbv)
 obtain ⟨n11,n12,l4,⟨hq1,hq2,hq3⟩,e11⟩:∃a b c,(a=n3/\b=p1/\c=l1)/\o.dm l3 n2=some (.agg [.int .i64 a,.int .i64 b,.lst c]):=⟨_,_,_,⟨rfl,rfl,rfl⟩,av ho hk0 hg4⟩
 obtain ⟨l5,hset,e12⟩:∃z,z=fs.set n2.toNat (.agg [.int .i64 n3,.int .i64 n9,.lst l1])/\o.set l3 n2 (.agg [.int .i64 n11,.int .i64 n9,.lst l4])=z:=⟨_,rfl,by rw [ho.set,hL4,List.set_set,hq1,hq3]⟩
 conv=>lhs;rw [e11];cbv;rw [e12];cbv
 subst Q;rw [<-hset];try rfl
theorem E_ (hop:n7=11):o.call 100 [.agg [Al c_0,Al c_1],.ptr (1,0) 0] [some (Ob (1,1) (1,2)),Op fs,Os st]=some ⟨.tup [.agg [Ai 0,Ai 0,As ⟨#[]⟩,.emp],Ai 2],[some (Ob (1,1) (1,2)),Op L4,Os st],[]⟩:=by
 have hb:=hst.1;refine ho.aI fun R Q=> ?_
 obtain ⟨n1,e1,g1⟩:=aB ho fs;obtain ⟨n2,e2,g2⟩:=aS ho n1 1;obtain rfl:n2=k:=by omega
 have hlk:n2.toNat<fs.length:=(ai.1 hf).1;have e3:=av ho hk0 hf;have e4:=av ho h3 hc;have e5:=av ho h4 hi;obtain ⟨n10,e6,g6⟩:=bA ho n4 1;obtain ⟨l3,rfl,e7⟩:∃z,z=L4/\o.set fs n2 (.agg [.int .i64 n3,.int .i64 n10,.lst l1])=z:=⟨_,rfl,by rw [ho.set,hL4,show n10=p1 by omega]⟩
 have hg4:l3[n2.toNat]? =some (.agg [.int .i64 n3,.int .i64 p1,.lst l1]):=by rw [hL4];exact bU hlk
 have hlen4:l3.length=fs.length:=by rw [hL4,List.length_set]
 conv=>lhs;cbv;rw [e1];cbv;rw [e2];cbv;rw [e3];cbv;(try (rw [e3];cbv));rw [e4];cbv;(try (rw [e3];cbv));rw [e5];cbv;(try (rw [e3];cbv));rw [e6];cbv;(try (rw [e3];cbv));rw [e7];cbv
 iterate 4 (conv=>lhs;simp (disch:=omega) only [bG ho,cw ho];cbv)
 subst Q;rfl
theorem Fa (hop:n7=12) (h1:1<=(st.length:Int)) (t_0 t_1:Int) (t_2:ByteArray) (t_3:List D) (ht:st[((st.length:Int)-1).toNat]? =some (.agg [.int .i64 t_0,.int .i64 t_1,.str t_2,.lst t_3])):o.call 100 [.agg [.d (.lst c_0),.d (.lst c_1)],.ptr (1,0) 0] [some (.box [.arr (1,1) (192,3) none false,.arr (1,2) (31,4) none false]),some (.rows (192,3) fs),some (.rows (31,4) st)]=some (if k=0 then ⟨.tup [.agg [.d (.int .i64 t_0),.d (.int .i64 t_1),.d (.str t_2),.d (.lst t_3)],.d (.int .i64 0)],[some (.box [.arr (0,0) (192,3) none false,.arr (0,1) (31,4) none false]),none,none],[some (.rows (192,3) (fs.take k.toNat)),some (.rows (31,4) (st.take ((st.length:Int)-1).toNat))]⟩else ⟨.tup [.agg [.d (.int .i64 0),.d (.int .i64 0),.d (.str ⟨#[]⟩),.emp],.d (.int .i64 7)],[some (.box [.arr (0,0) (192,3) none false,.arr (1,2) (31,4) none false]),none,some (.rows (31,4) st)],[some (.rows (192,3) (fs.take k.toNat))]⟩):=by
 have hb:=hst.1;refine ho.aI fun R Q=> ?_
 obtain ⟨n1,e1,g1⟩:=aB ho fs;obtain ⟨n2,e2,g2⟩:=aS ho n1 1;obtain rfl:n2=k:=by omega
 have hlk:n2.toNat<fs.length:=(ai.1 hf).1;have e3:=av ho hk0 hf;have e4:=av ho h3 hc;have e5:=av ho h4 hi;obtain ⟨n10,e6,g6⟩:=bA ho n4 1;obtain ⟨l3,rfl,e7⟩:∃z,z=L4/\o.set fs n2 (.agg [.int .i64 n3,.int .i64 n10,.lst l1])=z:=⟨_,rfl,by rw [ho.set,hL4,show n10=p1 by omega]⟩
 have hg4:l3[n2.toNat]? =some (.agg [.int .i64 n3,.int .i64 p1,.lst l1]):=by rw [hL4];exact bU hlk
 have hlen4:l3.length=fs.length:=by rw [hL4,List.length_set]
 conv=>lhs;cbv;rw [e1];cbv;rw [e2];cbv;rw [e3];cbv;(try (rw [e3];cbv));rw [e4];cbv;(try (rw [e3];cbv));rw [e5];cbv;(try (rw [e3];cbv));rw [e6];cbv;(try (rw [e3];cbv));rw [e7];cbv
 iterate 5 (conv=>lhs;simp (disch:=omega) only [bG ho,cw ho];cbv)
 obtain ⟨n11,e13,g13⟩:=aB ho l3;obtain ⟨n12,e14,g14⟩:=aS ho n11 1;obtain ⟨n13,g15,e15⟩:∃v,v=n12-0/\o.minus n12 0=v:=⟨_,rfl,ho.minus _ _⟩
 obtain ⟨l4,hl4,e16⟩:∃z,z=fs.take n2.toNat/\o.sub l3 0 n13=some z:=⟨_,rfl,by rw [gZ ho (Int.le_refl _) (by omega) (by omega),show n13=n2 by omega,hL4];exact congrArg some (by rw [show (0:Int).toNat=0 from rfl,List.drop_zero,List.take_set_of_le (Nat.le_refl _)])⟩
 have hlen5:(l4.length:Int)=n2:=by rw [hl4,List.length_take];omega
 obtain ⟨n14,e18,g18⟩:=aB ho l4;conv=>lhs;rw [e13];cbv;rw [e14];cbv;rw [e15];cbv;rw [e16];cbv;(try (rw [e15];cbv));rw [ho.isZero];cbv;(try (rw [e16];cbv));rw [e18];cbv;(try (rw [e15];cbv))
 rcases ak ho n14 0 with ⟨e19,g19⟩|⟨e19,g19⟩<;>(conv=>lhs;rw [e19];cbv)
 ·subst Q;rw [if_neg (by omega),<-hl4];try rfl
 ·obtain ⟨l5,l6,hl5,hl6,e20⟩:∃a b,a=st.drop ((st.length:Int)-1).toNat/\b=st.take ((st.length:Int)-1).toNat/\o.call 186 [.ptr (1,0) 0,.d (.int .i64 1)] [some (.box [.arr (1,1) (192,3) none false,.arr (1,2) (31,4) none false]),some (.rows (192,3) l4),some (.rows (31,4) st)]=some ⟨.arr (0,0) (31,4) none false,[some (.box [.arr (1,1) (192,3) none false,.arr (0,1) (31,4) none false]),some (.rows (192,3) l4),none],[some (.rows (31,4) a),some (.rows (31,4) b)]⟩:=⟨_,_,rfl,rfl,Bx ho l4 st 1 hst (by omega) (by omega) _ rfl⟩
  have hs5:stk o l5:=by rw [hl5];exact iB hst
  obtain ⟨n15,n16,s3,l7,⟨hv1,hv2,hv3,hv4⟩,e21⟩:∃a b c d,(a=t_0/\b=t_1/\c=t_2/\d=t_3)/\o.dm l5 0=some (.agg [.int .i64 a,.int .i64 b,.str c,.lst d]):=⟨_,_,_,_,⟨rfl,rfl,rfl,rfl⟩,av ho (Int.le_refl _) (by rw [hl5,show (0:Int).toNat=0 from rfl,List.getElem?_drop,Nat.add_zero];exact ht)⟩
  conv=>lhs;rw [e20];cbv;(try (rw [e15];cbv));rw [e21];cbv;(try (rw [e15];cbv));(try (rw [e21];cbv))
  subst Q;rw [if_pos (by omega),<-hl4,<-hl6,<-hv1,<-hv2,<-hv3,<-hv4];try rfl
end
end
def g_ (xs:List D) (i:Int):Int:=match xs[i.toNat]? with | some (.agg (_:: .int _ a::_))=>a | _=>0
noncomputable def DG (o:aK) (ps:List D) (i sl:Int):Bool:=match ps[i.toNat]? with | some p=>p_ o p sl | none=>false
noncomputable def aQ (o:aK) (fns ps:List D) (sl n lo op N:Int) (s:ByteArray) (to:Int):Bool:=
 if op=1 then decide (s=⟨#[]⟩)&&decide (to=0)&&i_ N 0 1000000000000
 else if op=2 then gh o s&&decide (N=0)&&decide (to=0)
 else if op=3 then decide (s=⟨#[]⟩)&&decide (to=0)&&i_ N 0 (sl-1)
 else if op=4 then decide (s=⟨#[]⟩)&&decide (to=0)&&i_ N 0 20
 else if op=5 then decide (s=⟨#[]⟩)&&decide (to=0)&&i_ N 0 20
 else if op=6 then decide (s=⟨#[]⟩)&&decide (to=0)&&i_ N 2 6
 else if op=7 then jG s&&decide (N=0)&&decide (to=0)
 else if op=8 then decide (0<=ja fns s)&&decide (g_ fns (ja fns s)=N)&&decide (to=0)
 else if op=9 then decide (s=⟨#[]⟩)&&i_ to lo (n-1)&&i_ N 0 (ps.length-1)&&DG o ps N sl
 else if op=10 then decide (s=⟨#[]⟩)&&i_ to lo (n-1)&&decide (N=0)
 else if op=11 then decide (s=⟨#[]⟩)&&decide (to=0)&&decide (N=0)
 else if op=12 then decide (s=⟨#[]⟩)&&decide (to=0)&&decide (N=0)
 else false
section
variable {o:aK} (ho:aU cF bE o)
include ho
section
variable (c_0 c_1:List D) (f_0:ByteArray) (f_1 f_2:Int) (f_3:List D) (x_0 x_1:Int) (x_2:ByteArray) (x_3:Int) (hC:∀x∈c_0,tH x) (hCb:(c_0.length:Int)<=1048576) {m:Nat} (hP:∀x∈c_1,Tm m x) (hPb:(c_1.length:Int)<=1048576) (hs2:(x_2.size:Int)<=1048576) (hf:0<=f_2/\f_2<=400) (hl3:(f_3.length:Int)<=1048576)
include c_0 c_1 f_0 f_1 f_2 f_3 x_0 x_1 x_2 x_3 hC hCb m hP hPb hs2 hf hl3
theorem Hx (hop:x_0<1\/12<x_0):o.call 279 [.sp [.lst c_0,.lst c_1] 0,.sp [.str f_0,.int .i64 f_1,.int .i64 f_2,.lst f_3] 0,.agg [Ai x_0,Ai x_1,As x_2,Ai x_3]] []=Ar (Ab (aQ o c_0 c_1 f_2 f_3.length 0 x_0 x_1 x_2 x_3)):=by
 refine ho.aI fun R Q=> ?_
 conv=>lhs;cbv
 rcases aP ho x_2 ⟨#[]⟩with ⟨e1,g1⟩|⟨e1,g1⟩<;>(conv=>lhs;rw [e1];cbv)
 ·obtain ⟨n1,e2,g2⟩:=aB ho f_3;obtain ⟨n2,e3,g3⟩:=aS ho n1 1;conv=>lhs;rw [e2];cbv;rw [e3];cbv
  rcases aR x_3 0 n2 with ⟨e4,g4⟩|⟨e4,g4⟩
  all_goals
   conv=>lhs;rw [ax ho,e4];cbv
   iterate 12 (conv=>lhs;simp (disch:=omega) only [bG ho];cbv)
   subst Q;clear hC hP;have:aQ o c_0 c_1 f_2 f_3.length 0 x_0 x_1 x_2 x_3=false:=by unfold aQ;rw [if_neg (by omega)];rw [if_neg (by omega)];rw [if_neg (by omega)];rw [if_neg (by omega)];rw [if_neg (by omega)];rw [if_neg (by omega)];rw [if_neg (by omega)];rw [if_neg (by omega)];rw [if_neg (by omega)];rw [if_neg (by omega)];rw [if_neg (by omega)];rw [if_neg (by omega)]
   rw [this];try (first | rfl | (exfalso;omega))
 ·rcases ak ho x_3 0 with ⟨e2,g2⟩|⟨e2,g2⟩<;>(conv=>lhs;rw [e2];cbv)
  all_goals
   obtain ⟨n1,e3,g3⟩:=aB ho f_3;obtain ⟨n2,e4,g4⟩:=aS ho n1 1;conv=>lhs;rw [e3];cbv;rw [e4];cbv
   rcases aR x_3 0 n2 with ⟨e5,g5⟩|⟨e5,g5⟩
   all_goals
    conv=>lhs;rw [ax ho,e5];cbv
    iterate 12 (conv=>lhs;simp (disch:=omega) only [bG ho];cbv)
    subst Q;clear hC hP;have:aQ o c_0 c_1 f_2 f_3.length 0 x_0 x_1 x_2 x_3=false:=by unfold aQ;rw [if_neg (by omega)];rw [if_neg (by omega)];rw [if_neg (by omega)];rw [if_neg (by omega)];rw [if_neg (by omega)];rw [if_neg (by omega)];rw [if_neg (by omega)];rw [if_neg (by omega)];rw [if_neg (by omega)];rw [if_neg (by omega)];rw [if_neg (by omega)];rw [if_neg (by omega)]
    rw [this];try (first | rfl | (exfalso;omega))
theorem Hy (hop:x_0=1):o.call 279 [.sp [.lst c_0,.lst c_1] 0,.sp [.str f_0,.int .i64 f_1,.int .i64 f_2,.lst f_3] 0,.agg [Ai x_0,Ai x_1,As x_2,Ai x_3]] []=Ar (Ab (aQ o c_0 c_1 f_2 f_3.length 0 x_0 x_1 x_2 x_3)):=by
 refine ho.aI fun R Q=> ?_
 conv=>lhs;cbv
 rcases aP ho x_2 ⟨#[]⟩with ⟨e1,g1⟩|⟨e1,g1⟩<;>(conv=>lhs;rw [e1];cbv)
 ·obtain ⟨n1,e2,g2⟩:=aB ho f_3;obtain ⟨n2,e3,g3⟩:=aS ho n1 1;conv=>lhs;rw [e2];cbv;rw [e3];cbv
  rcases aR x_3 0 n2 with ⟨e4,g4⟩|⟨e4,g4⟩
  all_goals
   conv=>lhs;rw [ax ho,e4];cbv;simp (disch:=omega) only [cw ho];cbv
   subst Q;clear hC hP;subst hop;simp_all [aQ]<;>omega
 ·rcases ak ho x_3 0 with ⟨e2,g2⟩|⟨e2,g2⟩<;>(conv=>lhs;rw [e2];cbv)
  ·obtain ⟨n1,e3,g3⟩:=aB ho f_3;obtain ⟨n2,e4,g4⟩:=aS ho n1 1;conv=>lhs;rw [e3];cbv;rw [e4];cbv
   rcases aR x_3 0 n2 with ⟨e5,g5⟩|⟨e5,g5⟩
   all_goals
    conv=>lhs;rw [ax ho,e5];cbv;simp (disch:=omega) only [cw ho];cbv
    subst Q;clear hC hP;subst hop;simp_all [aQ]<;>omega
  ·obtain ⟨n1,e3,g3⟩:=aB ho f_3;obtain ⟨n2,e4,g4⟩:=aS ho n1 1;conv=>lhs;rw [e3];cbv;rw [e4];cbv
   rcases aR x_3 0 n2 with ⟨e5,g5⟩|⟨e5,g5⟩
   all_goals
    conv=>lhs;rw [ax ho,e5];cbv;simp (disch:=omega) only [cw ho];cbv
    rcases aR x_1 0 1000000000000 with ⟨e8,g8⟩|⟨e8,g8⟩
    all_goals
     conv=>lhs;rw [ax ho,e8];cbv
     subst Q;clear hC hP;subst hop;simp_all [aQ]<;>omega
theorem Hz (hop:x_0=2):o.call 279 [.sp [.lst c_0,.lst c_1] 0,.sp [.str f_0,.int .i64 f_1,.int .i64 f_2,.lst f_3] 0,.agg [Ai x_0,Ai x_1,As x_2,Ai x_3]] []=Ar (Ab (aQ o c_0 c_1 f_2 f_3.length 0 x_0 x_1 x_2 x_3)):=by
 refine ho.aI fun R Q=> ?_
 conv=>lhs;cbv
 rcases aP ho x_2 ⟨#[]⟩with ⟨e1,g1⟩|⟨e1,g1⟩<;>(conv=>lhs;rw [e1];cbv)
 ·obtain ⟨n1,e2,g2⟩:=aB ho f_3;obtain ⟨n2,e3,g3⟩:=aS ho n1 1;conv=>lhs;rw [e2];cbv;rw [e3];cbv
  rcases aR x_3 0 n2 with ⟨e4,g4⟩|⟨e4,g4⟩
  all_goals
   conv=>lhs;rw [ax ho,e4];cbv
   iterate 2 (conv=>lhs;simp (disch:=omega) only [bG ho,cw ho];cbv)
   rcases ak ho x_1 0 with ⟨e8,g8⟩|⟨e8,g8⟩<;>(conv=>lhs;rw [e8];cbv)
   ·subst Q;clear hC hP;subst hop;simp_all [aQ]<;>omega
   ·cases he9:gh o x_2<;>(conv=>lhs;rw [tP ho x_2 (by omega),he9];cbv)
    ·subst Q;try rw [he9]
     clear hC hP;subst hop;simp_all [aQ]<;>omega
    ·rcases ak ho x_3 0 with ⟨e10,g10⟩|⟨e10,g10⟩<;>(conv=>lhs;rw [e10];cbv)
     all_goals
      subst Q;try rw [he9]
      clear hC hP;subst hop;simp_all [aQ]<;>omega
 ·rcases ak ho x_3 0 with ⟨e2,g2⟩|⟨e2,g2⟩<;>(conv=>lhs;rw [e2];cbv)
  all_goals
   obtain ⟨n1,e3,g3⟩:=aB ho f_3;obtain ⟨n2,e4,g4⟩:=aS ho n1 1;conv=>lhs;rw [e3];cbv;rw [e4];cbv
   rcases aR x_3 0 n2 with ⟨e5,g5⟩|⟨e5,g5⟩
   all_goals
    conv=>lhs;rw [ax ho,e5];cbv
    iterate 2 (conv=>lhs;simp (disch:=omega) only [bG ho,cw ho];cbv)
    rcases ak ho x_1 0 with ⟨e9,g9⟩|⟨e9,g9⟩<;>(conv=>lhs;rw [e9];cbv)
    ·subst Q;clear hC hP;subst hop;simp_all [aQ]<;>omega
    ·cases he10:gh o x_2<;>(conv=>lhs;rw [tP ho x_2 (by omega),he10];cbv)
     ·subst Q;try rw [he10]
      clear hC hP;subst hop;simp_all [aQ]<;>omega
     ·conv=>lhs;(try (rw [e2];cbv))
      subst Q;try rw [he10]
      clear hC hP;subst hop;simp_all [aQ]<;>omega
end
end
section
variable {o:aK} (ho:aU cF bE o)
include ho
section
variable (c_0 c_1:List D) (f_0:ByteArray) (f_1 f_2:Int) (f_3:List D) (x_0 x_1:Int) (x_2:ByteArray) (x_3:Int) (hC:∀x∈c_0,tH x) (hCb:(c_0.length:Int)<=1048576) {m:Nat} (hP:∀x∈c_1,Tm m x) (hPb:(c_1.length:Int)<=1048576) (hs2:(x_2.size:Int)<=1048576) (hf:0<=f_2/\f_2<=400) (hl3:(f_3.length:Int)<=1048576)
include c_0 c_1 f_0 f_1 f_2 f_3 x_0 x_1 x_2 x_3 hC hCb m hP hPb hs2 hf hl3
theorem HA (hop:x_0=3):o.call 279 [.sp [.lst c_0,.lst c_1] 0,.sp [.str f_0,.int .i64 f_1,.int .i64 f_2,.lst f_3] 0,.agg [Ai x_0,Ai x_1,As x_2,Ai x_3]] []=Ar (Ab (aQ o c_0 c_1 f_2 f_3.length 0 x_0 x_1 x_2 x_3)):=by
 refine ho.aI fun R Q=> ?_
 conv=>lhs;cbv
 rcases aP ho x_2 ⟨#[]⟩with ⟨e1,g1⟩|⟨e1,g1⟩<;>(conv=>lhs;rw [e1];cbv)
 ·obtain ⟨n1,e2,g2⟩:=aB ho f_3;obtain ⟨n2,e3,g3⟩:=aS ho n1 1;conv=>lhs;rw [e2];cbv;rw [e3];cbv
  rcases aR x_3 0 n2 with ⟨e4,g4⟩|⟨e4,g4⟩
  all_goals
   conv=>lhs;rw [ax ho,e4];cbv
   iterate 3 (conv=>lhs;simp (disch:=omega) only [bG ho,cw ho];cbv)
   subst Q;clear hC hP;subst hop;simp_all [aQ]<;>omega
 ·rcases ak ho x_3 0 with ⟨e2,g2⟩|⟨e2,g2⟩<;>(conv=>lhs;rw [e2];cbv)
  ·obtain ⟨n1,e3,g3⟩:=aB ho f_3;obtain ⟨n2,e4,g4⟩:=aS ho n1 1;conv=>lhs;rw [e3];cbv;rw [e4];cbv
   rcases aR x_3 0 n2 with ⟨e5,g5⟩|⟨e5,g5⟩
   all_goals
    conv=>lhs;rw [ax ho,e5];cbv
    iterate 3 (conv=>lhs;simp (disch:=omega) only [bG ho,cw ho];cbv)
    subst Q;clear hC hP;subst hop;simp_all [aQ]<;>omega
  ·obtain ⟨n1,e3,g3⟩:=aB ho f_3;obtain ⟨n2,e4,g4⟩:=aS ho n1 1;conv=>lhs;rw [e3];cbv;rw [e4];cbv
   rcases aR x_3 0 n2 with ⟨e5,g5⟩|⟨e5,g5⟩
   all_goals
    conv=>lhs;rw [ax ho,e5];cbv
    iterate 3 (conv=>lhs;simp (disch:=omega) only [bG ho,cw ho];cbv)
    obtain ⟨n3,e10,g10⟩:=aS ho f_2 1;conv=>lhs;rw [e10];cbv
    rcases aR x_1 0 n3 with ⟨e11,g11⟩|⟨e11,g11⟩
    all_goals
     conv=>lhs;rw [ax ho,e11];cbv
     subst Q;clear hC hP;subst hop;simp_all [aQ]<;>omega
theorem HB (hop:x_0=4):o.call 279 [.sp [.lst c_0,.lst c_1] 0,.sp [.str f_0,.int .i64 f_1,.int .i64 f_2,.lst f_3] 0,.agg [Ai x_0,Ai x_1,As x_2,Ai x_3]] []=Ar (Ab (aQ o c_0 c_1 f_2 f_3.length 0 x_0 x_1 x_2 x_3)):=by
 refine ho.aI fun R Q=> ?_
 conv=>lhs;cbv
 rcases aP ho x_2 ⟨#[]⟩with ⟨e1,g1⟩|⟨e1,g1⟩<;>(conv=>lhs;rw [e1];cbv)
 ·obtain ⟨n1,e2,g2⟩:=aB ho f_3;obtain ⟨n2,e3,g3⟩:=aS ho n1 1;conv=>lhs;rw [e2];cbv;rw [e3];cbv
  rcases aR x_3 0 n2 with ⟨e4,g4⟩|⟨e4,g4⟩
  all_goals
   conv=>lhs;rw [ax ho,e4];cbv
   iterate 4 (conv=>lhs;simp (disch:=omega) only [bG ho,cw ho];cbv)
   subst Q;clear hC hP;subst hop;simp_all [aQ]<;>omega
 ·rcases ak ho x_3 0 with ⟨e2,g2⟩|⟨e2,g2⟩<;>(conv=>lhs;rw [e2];cbv)
  ·obtain ⟨n1,e3,g3⟩:=aB ho f_3;obtain ⟨n2,e4,g4⟩:=aS ho n1 1;conv=>lhs;rw [e3];cbv;rw [e4];cbv
   rcases aR x_3 0 n2 with ⟨e5,g5⟩|⟨e5,g5⟩
   all_goals
    conv=>lhs;rw [ax ho,e5];cbv
    iterate 4 (conv=>lhs;simp (disch:=omega) only [bG ho,cw ho];cbv)
    subst Q;clear hC hP;subst hop;simp_all [aQ]<;>omega
  ·obtain ⟨n1,e3,g3⟩:=aB ho f_3;obtain ⟨n2,e4,g4⟩:=aS ho n1 1;conv=>lhs;rw [e3];cbv;rw [e4];cbv
   rcases aR x_3 0 n2 with ⟨e5,g5⟩|⟨e5,g5⟩
   all_goals
    conv=>lhs;rw [ax ho,e5];cbv
    iterate 4 (conv=>lhs;simp (disch:=omega) only [bG ho,cw ho];cbv)
    rcases aR x_1 0 20 with ⟨e11,g11⟩|⟨e11,g11⟩
    all_goals
     conv=>lhs;rw [ax ho,e11];cbv
     subst Q;clear hC hP;subst hop;simp_all [aQ]<;>omega
theorem HC (hop:x_0=5):o.call 279 [.sp [.lst c_0,.lst c_1] 0,.sp [.str f_0,.int .i64 f_1,.int .i64 f_2,.lst f_3] 0,.agg [Ai x_0,Ai x_1,As x_2,Ai x_3]] []=Ar (Ab (aQ o c_0 c_1 f_2 f_3.length 0 x_0 x_1 x_2 x_3)):=by
 refine ho.aI fun R Q=> ?_
 conv=>lhs;cbv
 rcases aP ho x_2 ⟨#[]⟩with ⟨e1,g1⟩|⟨e1,g1⟩<;>(conv=>lhs;rw [e1];cbv)
 ·obtain ⟨n1,e2,g2⟩:=aB ho f_3;obtain ⟨n2,e3,g3⟩:=aS ho n1 1;conv=>lhs;rw [e2];cbv;rw [e3];cbv
  rcases aR x_3 0 n2 with ⟨e4,g4⟩|⟨e4,g4⟩
  all_goals
   conv=>lhs;rw [ax ho,e4];cbv
   iterate 5 (conv=>lhs;simp (disch:=omega) only [bG ho,cw ho];cbv)
   subst Q;clear hC hP;subst hop;simp_all [aQ]<;>omega
 ·rcases ak ho x_3 0 with ⟨e2,g2⟩|⟨e2,g2⟩<;>(conv=>lhs;rw [e2];cbv)
  ·obtain ⟨n1,e3,g3⟩:=aB ho f_3;obtain ⟨n2,e4,g4⟩:=aS ho n1 1;conv=>lhs;rw [e3];cbv;rw [e4];cbv
   rcases aR x_3 0 n2 with ⟨e5,g5⟩|⟨e5,g5⟩
   all_goals
    conv=>lhs;rw [ax ho,e5];cbv
    iterate 5 (conv=>lhs;simp (disch:=omega) only [bG ho,cw ho];cbv)
    subst Q;clear hC hP;subst hop;simp_all [aQ]<;>omega
  ·obtain ⟨n1,e3,g3⟩:=aB ho f_3;obtain ⟨n2,e4,g4⟩:=aS ho n1 1;conv=>lhs;rw [e3];cbv;rw [e4];cbv
   rcases aR x_3 0 n2 with ⟨e5,g5⟩|⟨e5,g5⟩
   all_goals
    conv=>lhs;rw [ax ho,e5];cbv
    iterate 5 (conv=>lhs;simp (disch:=omega) only [bG ho,cw ho];cbv)
    rcases aR x_1 0 20 with ⟨e12,g12⟩|⟨e12,g12⟩
    all_goals
     conv=>lhs;rw [ax ho,e12];cbv
     subst Q;clear hC hP;subst hop;simp_all [aQ]<;>omega
theorem HE (hop:x_0=6):o.call 279 [.sp [.lst c_0,.lst c_1] 0,.sp [.str f_0,.int .i64 f_1,.int .i64 f_2,.lst f_3] 0,.agg [Ai x_0,Ai x_1,As x_2,Ai x_3]] []=Ar (Ab (aQ o c_0 c_1 f_2 f_3.length 0 x_0 x_1 x_2 x_3)):=by
 refine ho.aI fun R Q=> ?_
 conv=>lhs;cbv
 rcases aP ho x_2 ⟨#[]⟩with ⟨e1,g1⟩|⟨e1,g1⟩<;>(conv=>lhs;rw [e1];cbv)
 ·obtain ⟨n1,e2,g2⟩:=aB ho f_3;obtain ⟨n2,e3,g3⟩:=aS ho n1 1;conv=>lhs;rw [e2];cbv;rw [e3];cbv
  rcases aR x_3 0 n2 with ⟨e4,g4⟩|⟨e4,g4⟩
  all_goals
   conv=>lhs;rw [ax ho,e4];cbv
   iterate 6 (conv=>lhs;simp (disch:=omega) only [bG ho,cw ho];cbv)
   subst Q;clear hC hP;subst hop;simp_all [aQ]<;>omega
 ·rcases ak ho x_3 0 with ⟨e2,g2⟩|⟨e2,g2⟩<;>(conv=>lhs;rw [e2];cbv)
  ·obtain ⟨n1,e3,g3⟩:=aB ho f_3;obtain ⟨n2,e4,g4⟩:=aS ho n1 1;conv=>lhs;rw [e3];cbv;rw [e4];cbv
   rcases aR x_3 0 n2 with ⟨e5,g5⟩|⟨e5,g5⟩
   all_goals
    conv=>lhs;rw [ax ho,e5];cbv
    iterate 6 (conv=>lhs;simp (disch:=omega) only [bG ho,cw ho];cbv)
    subst Q;clear hC hP;subst hop;simp_all [aQ]<;>omega
  ·obtain ⟨n1,e3,g3⟩:=aB ho f_3;obtain ⟨n2,e4,g4⟩:=aS ho n1 1;conv=>lhs;rw [e3];cbv;rw [e4];cbv
   rcases aR x_3 0 n2 with ⟨e5,g5⟩|⟨e5,g5⟩
   all_goals
    conv=>lhs;rw [ax ho,e5];cbv
    iterate 6 (conv=>lhs;simp (disch:=omega) only [bG ho,cw ho];cbv)
    rcases aR x_1 2 6 with ⟨e13,g13⟩|⟨e13,g13⟩
    all_goals
     conv=>lhs;rw [ax ho,e13];cbv
     subst Q;clear hC hP;subst hop;simp_all [aQ]<;>omega
end
end
section
variable {o:aK} (ho:aU cF bE o)
include ho
section
variable (c_0 c_1:List D) (f_0:ByteArray) (f_1 f_2:Int) (f_3:List D) (x_0 x_1:Int) (x_2:ByteArray) (x_3:Int) (hC:∀x∈c_0,tH x) (hCb:(c_0.length:Int)<=1048576) {m:Nat} (hP:∀x∈c_1,Tm m x) (hPb:(c_1.length:Int)<=1048576) (hs2:(x_2.size:Int)<=1048576) (hf:0<=f_2/\f_2<=400) (hl3:(f_3.length:Int)<=1048576)
include c_0 c_1 f_0 f_1 f_2 f_3 x_0 x_1 x_2 x_3 hC hCb m hP hPb hs2 hf hl3
theorem HF (hop:x_0=7):o.call 279 [.sp [.lst c_0,.lst c_1] 0,.sp [.str f_0,.int .i64 f_1,.int .i64 f_2,.lst f_3] 0,.agg [Ai x_0,Ai x_1,As x_2,Ai x_3]] []=Ar (Ab (aQ o c_0 c_1 f_2 f_3.length 0 x_0 x_1 x_2 x_3)):=by
 refine ho.aI fun R Q=> ?_
 conv=>lhs;cbv
 rcases aP ho x_2 ⟨#[]⟩with ⟨e1,g1⟩|⟨e1,g1⟩<;>(conv=>lhs;rw [e1];cbv)
 ·obtain ⟨n1,e2,g2⟩:=aB ho f_3;obtain ⟨n2,e3,g3⟩:=aS ho n1 1;conv=>lhs;rw [e2];cbv;rw [e3];cbv
  rcases aR x_3 0 n2 with ⟨e4,g4⟩|⟨e4,g4⟩
  all_goals
   conv=>lhs;rw [ax ho,e4];cbv
   iterate 7 (conv=>lhs;simp (disch:=omega) only [bG ho,cw ho];cbv)
   rcases ak ho x_1 0 with ⟨e13,g13⟩|⟨e13,g13⟩<;>(conv=>lhs;rw [e13];cbv)
   ·subst Q;clear hC hP;subst hop;simp_all [aQ]<;>omega
   ·cases he14:jG x_2<;>(conv=>lhs;rw [Fu ho,he14];cbv)
    ·subst Q;try rw [he14]
     clear hC hP;subst hop;simp_all [aQ]<;>omega
    ·rcases ak ho x_3 0 with ⟨e15,g15⟩|⟨e15,g15⟩<;>(conv=>lhs;rw [e15];cbv)
     all_goals
      subst Q;try rw [he14]
      clear hC hP;subst hop;simp_all [aQ]<;>omega
 ·rcases ak ho x_3 0 with ⟨e2,g2⟩|⟨e2,g2⟩<;>(conv=>lhs;rw [e2];cbv)
  all_goals
   obtain ⟨n1,e3,g3⟩:=aB ho f_3;obtain ⟨n2,e4,g4⟩:=aS ho n1 1;conv=>lhs;rw [e3];cbv;rw [e4];cbv
   rcases aR x_3 0 n2 with ⟨e5,g5⟩|⟨e5,g5⟩
   all_goals
    conv=>lhs;rw [ax ho,e5];cbv
    iterate 7 (conv=>lhs;simp (disch:=omega) only [bG ho,cw ho];cbv)
    rcases ak ho x_1 0 with ⟨e14,g14⟩|⟨e14,g14⟩<;>(conv=>lhs;rw [e14];cbv)
    ·subst Q;clear hC hP;subst hop;simp_all [aQ]<;>omega
    ·cases he15:jG x_2<;>(conv=>lhs;rw [Fu ho,he15];cbv)
     ·subst Q;try rw [he15]
      clear hC hP;subst hop;simp_all [aQ]<;>omega
     ·conv=>lhs;(try (rw [e2];cbv))
      subst Q;try rw [he15]
      clear hC hP;subst hop;simp_all [aQ]<;>omega
theorem HG (hop:x_0=8):o.call 279 [.sp [.lst c_0,.lst c_1] 0,.sp [.str f_0,.int .i64 f_1,.int .i64 f_2,.lst f_3] 0,.agg [Ai x_0,Ai x_1,As x_2,Ai x_3]] []=Ar (Ab (aQ o c_0 c_1 f_2 f_3.length 0 x_0 x_1 x_2 x_3)):=by
 refine ho.aI fun R Q=> ?_
 conv=>lhs;cbv
 rcases aP ho x_2 ⟨#[]⟩with ⟨e1,g1⟩|⟨e1,g1⟩<;>(conv=>lhs;rw [e1];cbv)
 ·obtain ⟨n1,e2,g2⟩:=aB ho f_3;obtain ⟨n2,e3,g3⟩:=aS ho n1 1;conv=>lhs;rw [e2];cbv;rw [e3];cbv
  rcases aR x_3 0 n2 with ⟨e4,g4⟩|⟨e4,g4⟩
  all_goals
   conv=>lhs;rw [ax ho,e4];cbv
   iterate 8 (conv=>lhs;simp (disch:=omega) only [bG ho,cw ho];cbv)
   obtain ⟨n3,hA,e14⟩:∃n3,ja c_0 x_2=n3/\o.call 180 [.sp [.lst c_0,.lst c_1] 0,As x_2] []=Ar (Ai n3):=⟨_,rfl,uq ho c_0 c_1 x_2 hC hCb⟩
   have hAb:=oT c_0 x_2;conv=>lhs;rw [e14];cbv
   rcases iQ ho n3 0 with ⟨e15,g15⟩|⟨e15,g15⟩<;>(conv=>lhs;rw [e15];cbv)
   ·subst Q;clear hC hP;subst hop;simp_all [aQ]<;>omega
   ·obtain ⟨x,hx0,hx1,hx2⟩:=aD (xs:=c_0) rfl (show 0<=n3 by omega) (by omega);obtain ⟨s1,n4,n5,l1,rfl,hz⟩:=hC _ hx2;have hv:g_ c_0 n3=n4:=by unfold g_;rw [hx0]
    have e16:o.dm c_0 n3=some (.agg [.str s1,.int .i64 n4,.int .i64 n5,.lst l1]):=av ho (by omega) hx0;conv=>lhs;rw [e16];cbv
    rcases ak ho n4 x_1 with ⟨e17,g17⟩|⟨e17,g17⟩<;>(conv=>lhs;rw [e17];cbv)
    ·subst Q;clear hC hP;subst hop;simp_all [aQ]<;>omega
    ·rcases ak ho x_3 0 with ⟨e18,g18⟩|⟨e18,g18⟩<;>(conv=>lhs;rw [e18];cbv)
     all_goals
      subst Q;clear hC hP;subst hop;simp_all [aQ]<;>omega
 ·rcases ak ho x_3 0 with ⟨e2,g2⟩|⟨e2,g2⟩<;>(conv=>lhs;rw [e2];cbv)
  all_goals
   obtain ⟨n1,e3,g3⟩:=aB ho f_3;obtain ⟨n2,e4,g4⟩:=aS ho n1 1;conv=>lhs;rw [e3];cbv;rw [e4];cbv
   rcases aR x_3 0 n2 with ⟨e5,g5⟩|⟨e5,g5⟩
   all_goals
    conv=>lhs;rw [ax ho,e5];cbv
    iterate 8 (conv=>lhs;simp (disch:=omega) only [bG ho,cw ho];cbv)
    obtain ⟨n3,hA,e15⟩:∃n3,ja c_0 x_2=n3/\o.call 180 [.sp [.lst c_0,.lst c_1] 0,As x_2] []=Ar (Ai n3):=⟨_,rfl,uq ho c_0 c_1 x_2 hC hCb⟩
    have hAb:=oT c_0 x_2;conv=>lhs;rw [e15];cbv
    rcases iQ ho n3 0 with ⟨e16,g16⟩|⟨e16,g16⟩<;>(conv=>lhs;rw [e16];cbv)
    ·subst Q;clear hC hP;subst hop;simp_all [aQ]<;>omega
    ·obtain ⟨x,hx0,hx1,hx2⟩:=aD (xs:=c_0) rfl (show 0<=n3 by omega) (by omega);obtain ⟨s1,n4,n5,l1,rfl,hz⟩:=hC _ hx2;have hv:g_ c_0 n3=n4:=by unfold g_;rw [hx0]
     have e17:o.dm c_0 n3=some (.agg [.str s1,.int .i64 n4,.int .i64 n5,.lst l1]):=av ho (by omega) hx0;conv=>lhs;rw [e17];cbv
     rcases ak ho n4 x_1 with ⟨e18,g18⟩|⟨e18,g18⟩<;>(conv=>lhs;rw [e18];cbv)
     ·subst Q;clear hC hP;subst hop;simp_all [aQ]<;>omega
     ·conv=>lhs;(try (rw [e2];cbv))
      subst Q;clear hC hP;subst hop;simp_all [aQ]<;>omega
end
end
section
variable {o:aK} (ho:aU cF bE o)
include ho
section
variable (c_0 c_1:List D) (f_0:ByteArray) (f_1 f_2:Int) (f_3:List D) (x_0 x_1:Int) (x_2:ByteArray) (x_3:Int) (hC:∀x∈c_0,tH x) (hCb:(c_0.length:Int)<=1048576) {m:Nat} (hP:∀x∈c_1,Tm m x) (hPb:(c_1.length:Int)<=1048576) (hs2:(x_2.size:Int)<=1048576) (hf:0<=f_2/\f_2<=400) (hl3:(f_3.length:Int)<=1048576)
include c_0 c_1 f_0 f_1 f_2 f_3 x_0 x_1 x_2 x_3 hC hCb m hP hPb hs2 hf hl3
theorem HI (hop:x_0=9):o.call 279 [.sp [.lst c_0,.lst c_1] 0,.sp [.str f_0,.int .i64 f_1,.int .i64 f_2,.lst f_3] 0,.agg [Ai x_0,Ai x_1,As x_2,Ai x_3]] []=Ar (Ab (aQ o c_0 c_1 f_2 f_3.length 0 x_0 x_1 x_2 x_3)):=by
 refine ho.aI fun R Q=> ?_
 conv=>lhs;cbv
 rcases aP ho x_2 ⟨#[]⟩with ⟨e1,g1⟩|⟨e1,g1⟩<;>(conv=>lhs;rw [e1];cbv)
 ·obtain ⟨n1,e2,g2⟩:=aB ho f_3;obtain ⟨n2,e3,g3⟩:=aS ho n1 1;conv=>lhs;rw [e2];cbv;rw [e3];cbv
  rcases aR x_3 0 n2 with ⟨e4,g4⟩|⟨e4,g4⟩
  all_goals
   conv=>lhs;rw [ax ho,e4];cbv
   iterate 9 (conv=>lhs;simp (disch:=omega) only [bG ho,cw ho];cbv)
   conv=>lhs;(try (rw [e1];cbv))
   subst Q;clear hC hP;subst hop;simp_all [aQ]<;>omega
 ·rcases ak ho x_3 0 with ⟨e2,g2⟩|⟨e2,g2⟩<;>(conv=>lhs;rw [e2];cbv)
  all_goals
   obtain ⟨n1,e3,g3⟩:=aB ho f_3;obtain ⟨n2,e4,g4⟩:=aS ho n1 1;conv=>lhs;rw [e3];cbv;rw [e4];cbv
   rcases aR x_3 0 n2 with ⟨e5,g5⟩|⟨e5,g5⟩
   ·conv=>lhs;rw [ax ho,e5];cbv
    iterate 9 (conv=>lhs;simp (disch:=omega) only [bG ho,cw ho];cbv)
    conv=>lhs;(try (rw [e1];cbv))
    subst Q;clear hC hP;subst hop;simp_all [aQ]<;>omega
   ·conv=>lhs;rw [ax ho,e5];cbv
    iterate 9 (conv=>lhs;simp (disch:=omega) only [bG ho,cw ho];cbv)
    obtain ⟨n3,e16,g16⟩:=aB ho c_1;obtain ⟨n4,e17,g17⟩:=aS ho n3 1;conv=>lhs;(try (rw [e1];cbv));rw [e16];cbv;rw [e17];cbv
    rcases aR x_1 0 n4 with ⟨e18,g18⟩|⟨e18,g18⟩
    ·conv=>lhs;rw [ax ho,e18];cbv
     subst Q;clear hC hP;subst hop;simp_all [aQ]<;>omega
    ·obtain ⟨x,hx0,hx1,hx2⟩:=aD (xs:=c_1) rfl (show 0<=x_1 by omega) (by omega);obtain ⟨m',n5,n6,s1,l1,hd',rfl,hs,hl,ht⟩:=dc (hP _ hx2);have hTp:=hP _ hx2;have hv:DG o c_1 x_1 f_2=p_ o (.agg [.int .i64 n5,.int .i64 n6,.str s1,.lst l1]) f_2:=by unfold DG;rw [hx0]
     have e20:o.dm c_1 x_1=some (.agg [.int .i64 n5,.int .i64 n6,.str s1,.lst l1]):=av ho (by omega) hx0;obtain ⟨b14,he21⟩:∃b:Bool,p_ o (.agg [.int .i64 n5,.int .i64 n6,.str s1,.lst l1]) f_2=b:=⟨_,rfl⟩
     have e21:o.call 344 [At n5 n6 s1 l1,Ai f_2] []=Ar (Ab b14):=(Dz ho _ _ _ _ hTp f_2).trans (by rw [he21]);conv=>lhs;rw [ax ho,e18];cbv;rw [e20];cbv;rw [e21];cbv
     subst Q;clear hC hP;subst hop;simp_all [aQ]<;>omega
theorem EG (hop:x_0=10):o.call 279 [.sp [.lst c_0,.lst c_1] 0,.sp [.str f_0,.int .i64 f_1,.int .i64 f_2,.lst f_3] 0,.agg [Ai x_0,Ai x_1,As x_2,Ai x_3]] []=Ar (Ab (aQ o c_0 c_1 f_2 f_3.length 0 x_0 x_1 x_2 x_3)):=by
 refine ho.aI fun R Q=> ?_
 conv=>lhs;cbv
 rcases aP ho x_2 ⟨#[]⟩with ⟨e1,g1⟩|⟨e1,g1⟩<;>(conv=>lhs;rw [e1];cbv)
 ·obtain ⟨n1,e2,g2⟩:=aB ho f_3;obtain ⟨n2,e3,g3⟩:=aS ho n1 1;conv=>lhs;rw [e2];cbv;rw [e3];cbv
  rcases aR x_3 0 n2 with ⟨e4,g4⟩|⟨e4,g4⟩
  all_goals
   conv=>lhs;rw [ax ho,e4];cbv
   iterate 10 (conv=>lhs;simp (disch:=omega) only [bG ho,cw ho];cbv)
   conv=>lhs;(try (rw [e1];cbv))
   subst Q;clear hC hP;subst hop;simp_all [aQ]<;>omega
 ·rcases ak ho x_3 0 with ⟨e2,g2⟩|⟨e2,g2⟩<;>(conv=>lhs;rw [e2];cbv)
  all_goals
   obtain ⟨n1,e3,g3⟩:=aB ho f_3;obtain ⟨n2,e4,g4⟩:=aS ho n1 1;conv=>lhs;rw [e3];cbv;rw [e4];cbv
   rcases aR x_3 0 n2 with ⟨e5,g5⟩|⟨e5,g5⟩
   all_goals
    conv=>lhs;rw [ax ho,e5];cbv
    iterate 10 (conv=>lhs;simp (disch:=omega) only [bG ho,cw ho];cbv)
    conv=>lhs;(try (rw [e1];cbv))
    rcases ak ho x_1 0 with ⟨e17,g17⟩|⟨e17,g17⟩<;>(conv=>lhs;rw [e17];cbv)
    all_goals
     subst Q;clear hC hP;subst hop;simp_all [aQ]<;>omega
theorem EH (hop:x_0=11):o.call 279 [.sp [.lst c_0,.lst c_1] 0,.sp [.str f_0,.int .i64 f_1,.int .i64 f_2,.lst f_3] 0,.agg [Ai x_0,Ai x_1,As x_2,Ai x_3]] []=Ar (Ab (aQ o c_0 c_1 f_2 f_3.length 0 x_0 x_1 x_2 x_3)):=by
 refine ho.aI fun R Q=> ?_
 conv=>lhs;cbv
 rcases aP ho x_2 ⟨#[]⟩with ⟨e1,g1⟩|⟨e1,g1⟩<;>(conv=>lhs;rw [e1];cbv)
 ·obtain ⟨n1,e2,g2⟩:=aB ho f_3;obtain ⟨n2,e3,g3⟩:=aS ho n1 1;conv=>lhs;rw [e2];cbv;rw [e3];cbv
  rcases aR x_3 0 n2 with ⟨e4,g4⟩|⟨e4,g4⟩
  all_goals
   conv=>lhs;rw [ax ho,e4];cbv
   iterate 11 (conv=>lhs;simp (disch:=omega) only [bG ho,cw ho];cbv)
   subst Q;clear hC hP;subst hop;simp_all [aQ]<;>omega
 ·rcases ak ho x_3 0 with ⟨e2,g2⟩|⟨e2,g2⟩<;>(conv=>lhs;rw [e2];cbv)
  ·obtain ⟨n1,e3,g3⟩:=aB ho f_3;obtain ⟨n2,e4,g4⟩:=aS ho n1 1;conv=>lhs;rw [e3];cbv;rw [e4];cbv
   rcases aR x_3 0 n2 with ⟨e5,g5⟩|⟨e5,g5⟩
   all_goals
    conv=>lhs;rw [ax ho,e5];cbv
    iterate 11 (conv=>lhs;simp (disch:=omega) only [bG ho,cw ho];cbv)
    subst Q;clear hC hP;subst hop;simp_all [aQ]<;>omega
  ·obtain ⟨n1,e3,g3⟩:=aB ho f_3;obtain ⟨n2,e4,g4⟩:=aS ho n1 1;conv=>lhs;rw [e3];cbv;rw [e4];cbv
   rcases aR x_3 0 n2 with ⟨e5,g5⟩|⟨e5,g5⟩
   all_goals
    conv=>lhs;rw [ax ho,e5];cbv
    iterate 11 (conv=>lhs;simp (disch:=omega) only [bG ho,cw ho];cbv)
    rcases ak ho x_1 0 with ⟨e18,g18⟩|⟨e18,g18⟩<;>(conv=>lhs;rw [e18];cbv)
    all_goals
     subst Q;clear hC hP;subst hop;simp_all [aQ]<;>omega
theorem EJ (hop:x_0=12):o.call 279 [.sp [.lst c_0,.lst c_1] 0,.sp [.str f_0,.int .i64 f_1,.int .i64 f_2,.lst f_3] 0,.agg [Ai x_0,Ai x_1,As x_2,Ai x_3]] []=Ar (Ab (aQ o c_0 c_1 f_2 f_3.length 0 x_0 x_1 x_2 x_3)):=by
 refine ho.aI fun R Q=> ?_
 conv=>lhs;cbv
 rcases aP ho x_2 ⟨#[]⟩with ⟨e1,g1⟩|⟨e1,g1⟩<;>(conv=>lhs;rw [e1];cbv)
 ·obtain ⟨n1,e2,g2⟩:=aB ho f_3;obtain ⟨n2,e3,g3⟩:=aS ho n1 1;conv=>lhs;rw [e2];cbv;rw [e3];cbv
  rcases aR x_3 0 n2 with ⟨e4,g4⟩|⟨e4,g4⟩
  all_goals
   conv=>lhs;rw [ax ho,e4];cbv
   iterate 12 (conv=>lhs;simp (disch:=omega) only [bG ho,cw ho];cbv)
   subst Q;clear hC hP;subst hop;simp_all [aQ]<;>omega
 ·rcases ak ho x_3 0 with ⟨e2,g2⟩|⟨e2,g2⟩<;>(conv=>lhs;rw [e2];cbv)
  ·obtain ⟨n1,e3,g3⟩:=aB ho f_3;obtain ⟨n2,e4,g4⟩:=aS ho n1 1;conv=>lhs;rw [e3];cbv;rw [e4];cbv
   rcases aR x_3 0 n2 with ⟨e5,g5⟩|⟨e5,g5⟩
   all_goals
    conv=>lhs;rw [ax ho,e5];cbv
    iterate 12 (conv=>lhs;simp (disch:=omega) only [bG ho,cw ho];cbv)
    subst Q;clear hC hP;subst hop;simp_all [aQ]<;>omega
  ·obtain ⟨n1,e3,g3⟩:=aB ho f_3;obtain ⟨n2,e4,g4⟩:=aS ho n1 1;conv=>lhs;rw [e3];cbv;rw [e4];cbv
   rcases aR x_3 0 n2 with ⟨e5,g5⟩|⟨e5,g5⟩
   all_goals
    conv=>lhs;rw [ax ho,e5];cbv
    iterate 12 (conv=>lhs;simp (disch:=omega) only [bG ho,cw ho];cbv)
    rcases ak ho x_1 0 with ⟨e19,g19⟩|⟨e19,g19⟩<;>(conv=>lhs;rw [e19];cbv)
    all_goals
     subst Q;clear hC hP;subst hop;simp_all [aQ]<;>omega
end
end
end T2
